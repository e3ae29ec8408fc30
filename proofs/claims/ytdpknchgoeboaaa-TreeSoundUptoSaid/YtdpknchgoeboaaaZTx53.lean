/- Part 3 of what a law of this seat rests on. -/
import Derived.Shelf.SlSortCmp.WholeK
import Derived.Shelf.SlSortCmp.NoneTotal
import Derived.ChangeKeysEq
import Derived.Laws.StructEq
import Derived.Test.YtdpknchgoeboaaaProg
import Derived.Shelf.SlIterI.Sorted
import Derived.Shelf.SlIter.Sorted
import Derived.Shelf.SortM.Plain
import Derived.Shelf.SortM.SortNone
import Derived.Ground.GgzProg
import Derived.Ground.SlgmProg
import Derived.Test.YtdpknchgoeboaaaZTx52
/- Children are put in order: the kit's contract of slices.SortFunc at structs, as a row of one's own memory. -/
set_option linter.unusedVariables false
set_option linter.unusedSimpArgs false
set_option maxRecDepth 100000
namespace Go.Proofs.Ytdpknchgoeboaaa.Vc
open Go Go.Proofs Go.Sort Go.Shelf Go.Lib

instance : Inhabited Child := ⟨zChild⟩
def encC (c : Child) : List Value := [.string c.name, .int .i64 c.node]
def cfC (x y : Child) : Int := orV (cmpS x.name y.name) (Lib.compareInt x.node y.node)
/-- By name, then by number. -/
def ltC (x y : Child) : Bool := ltOf cfC x y
theorem ltC_iff (x y : Child) : ltC x y = true ↔ x.name.data.toList < y.name.data.toList ∨ (x.name = y.name ∧ x.node < y.node) := by
  have hd : ∀ b : ByteArray, b.toList = b.data.toList := fun b => ByteArray.toList_eq b
  have hs : cmpS x.name y.name = if x.name.data.toList < y.name.data.toList then -1 else if x.name = y.name then 0 else 1 := by
    unfold cmpS
    rw [bytesLess_eq, hd, hd]
    simp only [decide_eq_true_eq]
  show decide (orV (cmpS x.name y.name) (Lib.compareInt x.node y.node) < 0) = true ↔ _
  rw [hs, decide_eq_true_iff]
  by_cases h1 : x.name.data.toList < y.name.data.toList
  · rw [if_pos h1]
    refine ⟨fun _ => .inl h1, fun _ => ?_⟩
    rw [orV, if_neg (by decide)]
    decide
  · have hc : Lib.compareInt x.node y.node < 0 ↔ x.node < y.node := by
      unfold Lib.compareInt
      (repeat' split) <;> simp_all <;> omega
    by_cases h2 : x.name = y.name
    · rw [if_neg h1, if_pos h2, orV, if_pos rfl, hc]
      exact ⟨fun h => .inr ⟨h2, h⟩, fun h => h.elim (fun h => absurd h h1) (·.2)⟩
    · rw [if_neg h1, if_neg h2, orV, if_neg (by decide)]
      exact ⟨fun h => absurd h (by decide), fun h => h.elim (fun h => absurd h h1) fun h => absurd h.1 h2⟩
theorem bytes_tri (a b : ByteArray) : a.data.toList < b.data.toList ∨ a = b ∨ b.data.toList < a.data.toList := by
  by_cases h1 : a.data.toList < b.data.toList
  · exact .inl h1
  · by_cases h2 : b.data.toList < a.data.toList
    · exact .inr (.inr h2)
    · refine .inr (.inl ?_)
      have this : a.data.toList = b.data.toList := List.le_antisymm (List.not_lt.1 h2) (List.not_lt.1 h1)
      exact ByteArray.ext (Array.toList_inj.1 this)
theorem ltC_irrefl (x : Child) : ltC x x = false := by
  rw [Bool.eq_false_iff]
  intro h
  rcases (ltC_iff x x).1 h with h | ⟨_, h⟩
  · exact List.lt_irrefl _ h
  · omega
theorem ltC_trans (x y z : Child) (h1 : ltC x y = true) (h2 : ltC y z = true) : ltC x z = true := by
  rw [ltC_iff] at *
  rcases h1 with h1 | ⟨e1, h1⟩ <;> rcases h2 with h2 | ⟨e2, h2⟩
  · exact .inl (List.lt_trans h1 h2)
  · exact .inl (e2 ▸ h1)
  · exact .inl (e1 ▸ h2)
  · exact .inr ⟨e1.trans e2, by omega⟩
theorem ltC_anti (x y : Child) (h1 : ltC x y = false) (h2 : ltC y x = false) : x = y := by
  have g1 := (not_congr (ltC_iff x y)).1 (by simp [h1])
  have g2 := (not_congr (ltC_iff y x)).1 (by simp [h2])
  rcases bytes_tri x.name y.name with h | h | h
  · exact absurd (.inl h) g1
  · have : x.node = y.node := by
      rcases Int.lt_trichotomy x.node y.node with k | k | k
      · exact absurd (.inr ⟨h, k⟩) g1
      · exact k
      · exact absurd (.inr ⟨h.symm, k⟩) g2
    cases x; cases y
    simp_all
  · exact absurd (.inl h) g2
theorem swoC : SWO (ltOf cfC) where
  irrefl := ltC_irrefl
  trans := ltC_trans
  ntrans x y z h1 h2 := by
    show ltC x z = false
    have h1 : ltC x y = false := h1
    have h2 : ltC y z = false := h2
    rw [Bool.eq_false_iff]
    intro h
    cases h3 : ltC y x with
    | true => rw [ltC_trans y x z h3 h] at h2; cases h2
    | false =>
      have := ltC_anti x y h1 h3
      subst this
      rw [h] at h2; cases h2
def sortCh (cs : List Child) : List Child := cs.mergeSort fun x y => !(ltOf cfC) y x
theorem sortCh_perm (cs : List Child) : (sortCh cs).Perm cs := List.mergeSort_perm _ _
theorem sortCh_len (cs : List Child) : (sortCh cs).length = cs.length := (sortCh_perm cs).length_eq
theorem cmpLaysC (blk off size : Nat) (w : World) : CmpLays Try.prog 58 #[] encC 2 cfC blk off size w :=
  fun _ _ _ _ x y => closureC (x.name, x.node) (y.name, y.node) _

theorem flat_C (c : Child) : GV.flat (gChild c) = encC c := rfl
theorem els_C (cs : List Child) : Els 2 (cs.map gChild) := fun x hx => by
  obtain ⟨c, _, rfl⟩ := List.mem_map.1 hx
  exact ⟨gChild_ok c, gChild_sz c⟩
/-- The cells of these, one behind the other. -/
theorem flats_C (cs : List Child) {j : Nat} (hj : j < cs.length * 2) : (flats (cs.map gChild))[j]? = some (flatK encC 2 cs.toArray)[j]! := by
  have hi : j / 2 < cs.length := by omega
  have hx : (cs.map gChild)[j / 2]? = some (gChild cs[j / 2]) := by rw [List.getElem?_map, List.getElem?_eq_getElem hi]; rfl
  have hm : j % 2 < (encC cs[j / 2]).length := by show j % 2 < 2; omega
  have h := flats_at (els_C cs) hx (j % 2) _ (by rw [flat_C, List.getElem?_eq_getElem hm])
  rw [show j / 2 * 2 + j % 2 = j by omega] at h
  rw [h, get_flatK encC 2 cs.toArray j (by simpa using hj)]
  have e1 : cs.toArray[j / 2]! = cs[j / 2] := by
    rw [getElem!_pos cs.toArray (j / 2) (by simpa using hi)]
    simp
  rw [e1, getElem!_pos (encC cs[j / 2]) (j % 2) hm]
end Go.Proofs.Ytdpknchgoeboaaa.Vc

/- slices.SortFunc at children, of one's own memory. -/
set_option linter.unusedVariables false
set_option linter.unusedSimpArgs false
set_option maxRecDepth 100000
namespace Go.Proofs.Ytdpknchgoeboaaa.Vc
open Go Go.Proofs Go.Sort Go.Shelf Go.Lib

theorem sortC_spec (w : World) (v : Value) (cs : List Child) (m : PH) (hS : SlO m v 69 2 (cs.map gChild)) (hl : cs.length ≤ 1099511627776) :
    Spec Try.prog 57 [v, .func (.func 58) #[] #[]] m w fun rs m' => rs = [] ∧ SlO m' v 69 2 ((sortCh cs).map gChild) := by
  intro hm
  by_cases h0 : cs = []
  · subst h0
    have key : ∀ p cap, v = .slice p 0 cap → Calls Try.prog 57 #[v, .func (.func 58) #[] #[]] w fun e w' => e = .returned (.tuple #[]) ∧ w' = w := fun p cap e => by
      rw [e]; exact AnyF.slices_SortFunc_none Try.sortC p cap _ w
    have hv : ∃ p cap, v = .slice p 0 cap := by
      obtain ⟨_, ⟨h1, _⟩ | ⟨a, c, h1, _⟩⟩ := hS
      · exact ⟨none, 0, h1⟩
      · exact ⟨some a, c, h1⟩
    obtain ⟨p, cap, e⟩ := hv
    refine (key p cap e).mono fun e w' ⟨he, hw⟩ => ?_
    subst hw
    exact ⟨[], m, he, by simp, ⟨rfl, by simpa [sortCh] using hS⟩, hm, fun b hb => .inl hb, Kept.refl m w'⟩
  · obtain ⟨hels, ⟨_, h1⟩ | ⟨⟨b, o, sp⟩, c, rfl, hc, hs⟩⟩ := hS
    · exact absurd (by simpa using h1) h0
    have hlen : 0 < cs.length := List.length_pos_iff.2 h0
    rw [List.length_map] at hc
    obtain ⟨cl, hsp, hsz, hb, hrow⟩ := hs (by omega)
    simp only at hsp hsz hb hrow
    subst hsp
    rw [List.length_map]
    have hwb := hm b _ hb
    have hblk : b < w.heap.size := by
      rw [Array.getElem?_eq_some_iff] at hwb
      exact hwb.1
    have hH : HoldsK encC 2 w b o cs.toArray := fun j hj => by
      have hj' : j < cs.length * 2 := by simpa using hj
      have hcell := hrow j _ (flats_C cs hj')
      refine ⟨?_, ?_⟩
      · simp only [World.cell?, hwb]
        simpa using hcell
      · simp [World.frozen?, hwb]
    have hcon := AnyQ.slices_SortFunc Try.sortC 2 Try.isAgg69 Try.sizeOf69 encC (fun _ => rfl) (fun x v hv => by simp [encC] at hv; rcases hv with rfl | rfl <;> rfl) cfC swoC 58 #[] b o c cs.toArray w (enters_of Try.func58 (by kernel_rfl) rfl) (cmpLaysC b o _ w) hH hblk (by simp; omega)
    have hcon : Calls Try.prog 57 #[.slice (some ⟨b, o, none⟩) cs.length c, .func (.func 58) #[] #[]] w fun e w' => e = .returned (.tuple #[]) ∧ ∃ d' n os, PermIn 0 cs.toArray.size cs.toArray d' ∧ SortedIn (ltOf cfC) 0 cs.toArray.size d' ∧ w' = sortWorldK encC 2 w b o n d' os := hcon
    refine hcon.mono fun e w' ⟨he, d', n, os, hp, hso, hw⟩ => ?_
    have hd' : d'.toList = sortCh cs := by
      have := sorted_unique_holds swoC ltC_anti cs.toArray d' (by simpa using hp) (by simpa using hso)
      simpa [sortCh] using this
    have hsz' : d'.size = cs.length := by rw [← Array.length_toList, hd', sortCh_len]
    generalize hF : flatK encC 2 d' = F at *
    have hFs : F.size = cs.length * 2 := by rw [← hF, size_flatK, hsz']
    have hheap : w'.heap = (w.heap.modify b (onCells (putCells id o F))) ++ os := by rw [hw, ← hF]; rfl
    have hwb' : w'.heap[b]? = some (.cells (putCells id o F cl) 69 (0, 0)) := by
      rw [hheap, Array.getElem?_append_left (by simpa using hblk), Array.getElem?_modify, if_pos rfl, hwb]
      rfl
    refine ⟨[], one b (.cells (putCells id o F cl) 69 (0, 0)), he, by simp, ⟨rfl, els_C _, .inr ⟨⟨b, o, none⟩, c, by rw [List.length_map, sortCh_len], by rw [List.length_map, sortCh_len]; exact hc, fun _ => ⟨putCells id o F cl, rfl, by simp only [putCells, Array.size_mapIdx]; exact hsz, by simp [one], fun j v hj => ?_⟩⟩⟩, fun k x hk => ?_, fun k hk => ?_, ?_⟩
    · have hjl : j < (sortCh cs).length * 2 := by
        have := List.getElem?_eq_some_iff.1 hj
        have h2 := this.1
        rw [flats_len (els_C _), List.length_map] at h2
        exact h2
      rw [flats_C _ hjl] at hj
      rw [sortCh_len] at hjl
      have hj : F[j]! = v := by
        rw [← hF, show d' = (sortCh cs).toArray by rw [← hd', Array.toArray_toList]]
        exact Option.some.inj hj
      have hcell : ∃ x, cl[o + j]? = some x := by
        have := hrow j _ (flats_C cs hjl)
        exact ⟨_, this⟩
      obtain ⟨x, hx⟩ := hcell
      simp only [putCells]
      rw [Array.getElem?_mapIdx, hx, Option.map_some, if_pos ⟨by omega, by omega⟩, show o + j - o = j by omega, hj]
      rfl
    · simp only [one] at hk
      split at hk
      · rename_i e; subst e; cases hk; exact hwb'
      · cases hk
    · simp only [one] at hk
      split at hk
      · rename_i e; subst e; exact .inl (by rw [hb]; simp)
      · exact absurd rfl hk
    · refine ⟨by rw [hw]; rfl, by rw [hw]; rfl, by rw [hw]; rfl, by rw [hheap]; simp, fun k hk hmk => ?_⟩
      have hkb : b ≠ k := fun e => by subst e; rw [hb] at hmk; cases hmk
      rw [hheap, Array.getElem?_append_left (by simpa using hk), Array.getElem?_modify, if_neg hkb]
end Go.Proofs.Ytdpknchgoeboaaa.Vc

/- Slices that are known as values; what is known told anew. -/
set_option linter.unusedVariables false
set_option linter.unusedSimpArgs false
namespace Go.Proofs.Ytdpknchgoeboaaa.Vc
open Go

theorem gh_ge {C : Ctx} {K : KT} {σ τ : SS} (h : Ge σ τ) (hK : K τ) : ghC C K σ := ⟨fun a w hR => ⟨τ, h.rel hR, hK⟩⟩
theorem gh_seq {C : Ctx} {K : KT} {σ : SS} (h : ghC C (fun τ => ghC C K τ) σ) : ghC C K σ := by
  constructor
  intro a w hR
  obtain ⟨τ, h1, h2⟩ := h.h a w hR
  exact h2.h a w h1
theorem gh_id {C : Ctx} {K : KT} {σ : SS} (h : K σ) : ghC C K σ := ⟨fun _ _ hR => ⟨σ, hR, h⟩⟩

theorem seen_of {C : Ctx} {ph : List PH} {m u : PH} {b o : Nat} {y : GV} {cs : Array Value} {e : TypeId} {fz : Nat × Nat} (hu : KN C.u0 (m :: ph) u) (hb : u b = some (.cells cs e fz)) (hy : y.ok) (hr : RowAt cs o y.flat) : Seen C ph m b o y := by
  refine ⟨hy, cs, e, fz, ?_, hr⟩
  rcases hu b _ hb with h | ⟨v, hv, h⟩
  · exact .inr (.inr h)
  · rcases List.mem_cons.1 hv with rfl | hv
    · exact .inl h
    · exact .inr (.inl ⟨v, hv, h⟩)

/-- A slice's place. -/
theorem SlR.shape {u : PH} {v : Value} {z : Nat} {xs : List GV} (h : SlR u v z xs) :
    (xs = [] ∧ ∃ a c, v = .slice a 0 c) ∨ (xs ≠ [] ∧ ∃ b o c, v = .slice (some ⟨b, o, none⟩) xs.length c ∧ xs.length ≤ c ∧ ∀ {C : Ctx} {ph : List PH} {m : PH}, KN C.u0 (m :: ph) u → ∀ i x, xs[i]? = some x → Seen C ph m b (o + i * z) x) := by
  obtain ⟨hels, ⟨rfl, rfl⟩ | ⟨⟨b, o, sp⟩, c, rfl, hc, hs⟩⟩ := h
  · exact .inl ⟨rfl, none, 0, rfl⟩
  · rcases xs.eq_nil_or_concat with rfl | hx
    · exact .inl ⟨rfl, some ⟨b, o, sp⟩, c, rfl⟩
    · have hx : xs ≠ [] := by obtain ⟨l, y, rfl⟩ := hx; simp
      have : 0 < xs.length := List.length_pos_iff.2 hx
      obtain ⟨cs, e, fz, h1, h2, h3⟩ := hs (by omega)
      simp only at h1 h2 h3
      subst h1
      refine .inr ⟨hx, b, o, c, rfl, hc, fun hu i x hix => seen_of hu h2 (hels x (List.mem_of_getElem? hix)).1 fun j v hj => ?_⟩
      rw [Nat.add_assoc]
      exact h3 _ _ (flats_at hels hix j v hj)
end Go.Proofs.Ytdpknchgoeboaaa.Vc

/- A tree in memory. -/
set_option linter.unusedVariables false
set_option linter.unusedSimpArgs false
namespace Go.Proofs.Ytdpknchgoeboaaa.Vc
open Go

/-! ### Lists by number, by text -/
section
variable {α : Type}
def getA : List (Int × α) → Int → Option α
  | [], _ => none
  | (k, x) :: l, n => if k = n then some x else getA l n
def modA (f : α → α) : List (Int × α) → Int → List (Int × α)
  | [], _ => []
  | (k, x) :: l, n => if k = n then (k, f x) :: l else (k, x) :: modA f l n
def delA : List (Int × α) → Int → List (Int × α)
  | [], _ => []
  | (k, x) :: l, n => if k = n then l else (k, x) :: delA l n
theorem getA_mod (f : α → α) : ∀ (l : List (Int × α)) (n j : Int), getA (modA f l n) j = if j = n then (getA l j).map f else getA l j
  | [], n, j => by simp [getA, modA]
  | (k, x) :: l, n, j => by
    by_cases h1 : k = n
    · subst h1
      by_cases h2 : k = j
      · subst h2; simp [getA, modA]
      · simp [getA, modA, h2, Ne.symm h2]
    · by_cases h2 : k = j
      · subst h2; simp [getA, modA, h1]
      · simp [getA, modA, h1, h2, getA_mod f l n j]
theorem keys_mod (f : α → α) : ∀ (l : List (Int × α)) (n : Int), (modA f l n).map (·.1) = l.map (·.1)
  | [], n => rfl
  | (k, x) :: l, n => by
    by_cases h1 : k = n <;> simp [modA, h1, keys_mod f l n]
theorem getA_app : ∀ (l r : List (Int × α)) (j : Int), getA (l ++ r) j = match getA l j with | some x => some x | none => getA r j
  | [], r, j => rfl
  | (k, x) :: l, r, j => by
    by_cases h : k = j
    · simp [getA, h]
    · simp [getA, h, getA_app l r j]
theorem getA_mem : ∀ {l : List (Int × α)} {j : Int} {x : α}, getA l j = some x → (j, x) ∈ l
  | [], j, x, h => by simp [getA] at h
  | (k, y) :: l, j, x, h => by
    by_cases hk : k = j
    · simp [getA, hk] at h; subst h; subst hk; simp
    · simp [getA, hk] at h; exact List.mem_cons_of_mem _ (getA_mem h)
theorem getA_none {l : List (Int × α)} {j : Int} : getA l j = none ↔ j ∉ l.map (·.1) := by
  induction l with
  | nil => simp [getA]
  | cons p l ih =>
    obtain ⟨k, x⟩ := p
    by_cases hk : k = j
    · simp [getA, hk]
    · simp only [getA, hk, if_false, List.map_cons, List.mem_cons, not_or, ih]
      exact ⟨fun h => ⟨fun e => hk e.symm, h⟩, fun h => h.2⟩
theorem getA_of_mem {l : List (Int × α)} (hn : (l.map (·.1)).Nodup) {j : Int} {x : α} (h : (j, x) ∈ l) : getA l j = some x := by
  induction l with
  | nil => simp at h
  | cons p l ih =>
    obtain ⟨k, y⟩ := p
    simp only [List.map_cons, List.nodup_cons] at hn
    rcases List.mem_cons.1 h with e | h
    · cases e; simp [getA]
    · have hk : k ≠ j := fun e => hn.1 (List.mem_map.2 ⟨(j, x), h, e.symm⟩)
      simp [getA, hk, ih hn.2 h]
theorem getA_del {l : List (Int × α)} (hn : (l.map (·.1)).Nodup) (n j : Int) : getA (delA l n) j = if j = n then none else getA l j := by
  induction l with
  | nil => simp [getA, delA]
  | cons p l ih =>
    obtain ⟨k, y⟩ := p
    simp only [List.map_cons, List.nodup_cons] at hn
    by_cases h1 : k = n
    · subst h1
      by_cases h2 : j = k
      · subst h2; simp only [delA, if_true]; exact getA_none.2 hn.1
      · simp [delA, getA, h2, Ne.symm h2]
    · by_cases h2 : k = j
      · subst h2; simp [delA, getA, h1]
      · simp [delA, getA, h1, h2, ih hn.2]
theorem keys_del : ∀ (l : List (Int × α)) (n : Int), (delA l n).map (·.1) = (l.map (·.1)).erase n
  | [], n => rfl
  | (k, x) :: l, n => by
    by_cases h1 : k = n
    · simp [delA, h1]
    · simp [delA, h1, keys_del l n]
end
def getS : List (ByteArray × ByteArray) → ByteArray → Option ByteArray
  | [], _ => none
  | (k, x) :: l, n => if k = n then some x else getS l n
def putS : List (ByteArray × ByteArray) → ByteArray → ByteArray → List (ByteArray × ByteArray)
  | [], n, y => [(n, y)]
  | (k, x) :: l, n, y => if k = n then (n, y) :: l else (k, x) :: putS l n y
def delS : List (ByteArray × ByteArray) → ByteArray → List (ByteArray × ByteArray)
  | [], _ => []
  | (k, x) :: l, n => if k = n then l else (k, x) :: delS l n
def putK (l : List Int) (n : Int) : List Int := if n ∈ l then l else l ++ [n]

/-! ### What a tree is, in the program -/
structure PN where
  parent : Int
  name : ByteArray
  attrs : List (ByteArray × ByteArray)
  kids : List Int
structure PT where
  nodes : List (Int × PN)
  ids : List Int
  last : Int
def PN.bare : PN := ⟨0, ⟨#[]⟩, [], []⟩
def PT.mod (T : PT) (k : Int) (f : PN → PN) : PT := { T with nodes := modA f T.nodes k }
def PT.get (T : PT) (k : Int) : Option PN := getA T.nodes k
theorem PT.get_mod (T : PT) (k : Int) (f : PN → PN) (j : Int) : (T.mod k f).get j = if j = k then (T.get j).map f else T.get j := getA_mod f T.nodes k j

inductive Role
  | t | nb | mk | nd (k : Int) | ab (k : Int) | kb (k : Int)
  deriving DecidableEq
abbrev Lay := Role → Nat
def ptr (b : Nat) : Value := .pointer (some ⟨b, 0, none⟩)
def rawN (L : Lay) (l : List (Int × PN)) : List (Value × Value) := l.map fun p => (.int .i64 p.1, ptr (L (.nd p.1)))
def rawA (l : List (ByteArray × ByteArray)) : List (Value × Value) := l.map fun p => (.string p.1, .string p.2)
def rawK (l : List Int) : List (Value × Value) := l.map fun k => (.int .i64 k, .int .i64 1)

theorem mget_rawN (L : Lay) : ∀ (l : List (Int × PN)) (n : Int), mget (rawN L l) (.int .i64 n) = (getA l n).map fun _ => ptr (L (.nd n))
  | [], n => rfl
  | (k, x) :: l, n => by
    have ih := mget_rawN L l n
    by_cases h : k = n
    · subst h; simp [rawN, mget, keq, getA]
    · have : keq (.int .i64 k) (.int .i64 n) = false := by simp [keq, h]
      simp only [rawN, List.map_cons, mget, this, cond_false, getA, h, if_false]
      exact ih
theorem mput_rawN (L : Lay) (v : Value) : ∀ (l : List (Int × PN)) (n : Int), getA l n = none → mput (rawN L l) (.int .i64 n) v = rawN L l ++ [(.int .i64 n, v)]
  | [], n, _ => rfl
  | (k, x) :: l, n, h => by
    by_cases hk : k = n
    · simp [getA, hk] at h
    · have hq : keq (.int .i64 k) (.int .i64 n) = false := by simp [keq, hk]
      simp only [getA, hk, if_false] at h
      have ih := mput_rawN L v l n h
      simp only [rawN, List.map_cons, mput, hq, cond_false, List.cons_append] at ih ⊢
      rw [ih]
theorem mdel_rawN (L : Lay) : ∀ (l : List (Int × PN)) (n : Int), mdel (rawN L l) (.int .i64 n) = rawN L (delA l n)
  | [], n => rfl
  | (k, x) :: l, n => by
    have ih := mdel_rawN L l n
    by_cases h : k = n
    · subst h; simp [rawN, mdel, keq, delA]
    · have hq : keq (.int .i64 k) (.int .i64 n) = false := by simp [keq, h]
      simp only [rawN, List.map_cons, mdel, hq, cond_false, delA, h, if_false] at ih ⊢
      rw [ih]
theorem mput_rawK : ∀ (l : List Int) (n : Int), mput (rawK l) (.int .i64 n) (.int .i64 1) = rawK (putK l n)
  | [], n => by simp [rawK, mput, putK]
  | k :: l, n => by
    have ih := mput_rawK l n
    by_cases h : k = n
    · subst h; simp [rawK, mput, keq, putK]
    · have hq : keq (.int .i64 k) (.int .i64 n) = false := by simp [keq, h]
      simp only [rawK, List.map_cons, mput, hq, cond_false] at ih ⊢
      rw [ih]
      unfold putK
      by_cases hm : n ∈ l
      · simp [hm]
      · simp [hm, Ne.symm h]
theorem mdel_rawK : ∀ (l : List Int) (n : Int), mdel (rawK l) (.int .i64 n) = rawK (l.erase n)
  | [], n => rfl
  | k :: l, n => by
    have ih := mdel_rawK l n
    by_cases h : k = n
    · subst h; simp [rawK, mdel, keq]
    · have hq : keq (.int .i64 k) (.int .i64 n) = false := by simp [keq, h]
      simp only [rawK, List.map_cons, mdel, hq, cond_false] at ih ⊢
      rw [ih, List.erase_cons_tail (by simpa using h), List.map_cons]
theorem mget_rawA : ∀ (l : List (ByteArray × ByteArray)) (n : ByteArray), mget (rawA l) (.string n) = (getS l n).map .string
  | [], n => rfl
  | (k, x) :: l, n => by
    have ih := mget_rawA l n
    by_cases h : k = n
    · subst h; simp [rawA, mget, keq, getS]
    · have hq : keq (.string k) (.string n) = false := by simp [keq, h]
      simp only [rawA, List.map_cons, mget, hq, cond_false, getS, h, if_false]
      exact ih
theorem mput_rawA (y : ByteArray) : ∀ (l : List (ByteArray × ByteArray)) (n : ByteArray), mput (rawA l) (.string n) (.string y) = rawA (putS l n y)
  | [], n => rfl
  | (k, x) :: l, n => by
    have ih := mput_rawA y l n
    by_cases h : k = n
    · subst h; simp [rawA, mput, keq, putS]
    · have hq : keq (.string k) (.string n) = false := by simp [keq, h]
      simp only [rawA, List.map_cons, mput, hq, cond_false, putS, h, if_false] at ih ⊢
      rw [ih]
theorem mdel_rawA : ∀ (l : List (ByteArray × ByteArray)) (n : ByteArray), mdel (rawA l) (.string n) = rawA (delS l n)
  | [], n => rfl
  | (k, x) :: l, n => by
    have ih := mdel_rawA l n
    by_cases h : k = n
    · subst h; simp [rawA, mdel, keq, delS]
    · have hq : keq (.string k) (.string n) = false := by simp [keq, h]
      simp only [rawA, List.map_cons, mdel, hq, cond_false, delS, h, if_false] at ih ⊢
      rw [ih]
theorem rawN_mod (L : Lay) (f : PN → PN) : ∀ (l : List (Int × PN)) (n : Int), rawN L (modA f l n) = rawN L l
  | [], n => rfl
  | (k, x) :: l, n => by
    have ih := rawN_mod L f l n
    by_cases h : k = n
    · simp [rawN, modA, h]
    · simp only [rawN, modA, h, if_false, List.map_cons] at ih ⊢
      rw [ih]
theorem rawN_lay {L L' : Lay} : ∀ {l : List (Int × PN)}, (∀ k x, (k, x) ∈ l → L' (.nd k) = L (.nd k)) → rawN L' l = rawN L l
  | [], _ => rfl
  | (k, x) :: l, h => by
    have ih := rawN_lay (L := L) (L' := L') (l := l) fun j y hj => h j y (by simp [hj])
    simp only [rawN, List.map_cons] at ih ⊢
    rw [ih, h k x (by simp)]

/-! ### Where it lies -/
def act (T : PT) : Role → Prop
  | .nd k => ∃ n, T.get k = some n
  | .ab k => ∃ n, T.get k = some n
  | .kb k => ∃ n, T.get k = some n
  | _ => True
def Holds (L : Lay) (T : PT) (idsV : Value) : Role → Obj → Prop
  | .t, o => ∃ e, o = .cells #[.map (some (L .nb)), ptr (L .mk), .int .i64 0, idsV, .int .i64 T.last] e (0, 0)
  | .nb, o => MapI (some .i64) o (rawN L T.nodes)
  | .mk, _ => True
  | .nd k, o => ∀ n, T.get k = some n → ∃ e, o = .cells #[.int .i64 n.parent, .string n.name, .map (some (L (.ab k))), .map (some (L (.kb k)))] e (0, 0)
  | .ab k, o => ∀ n, T.get k = some n → MapI none o (rawA n.attrs)
  | .kb k, o => ∀ n, T.get k = some n → MapI (some .i64) o (rawK n.kids)
structure TreeT (R : Role → Prop) (m : PH) (L : Lay) (T : PT) (idsV : Value) : Prop where
  has : ∀ r, R r → act T r → ∃ o, m (L r) = some o ∧ Holds L T idsV r o
  sep : ∀ r s, R r → R s → act T r → act T s → L r = L s → r = s
  nod : (T.nodes.map (·.1)).Nodup
/-- A tree, owned. -/
def TreeM (e : TypeId) (m : PH) (L : Lay) (T : PT) : Prop := ∃ mi mt idsV, m = uni mi mt ∧ dis mi mt ∧ SlO mi idsV e 1 (T.ids.map gi) ∧ TreeT (fun _ => True) mt L T idsV

theorem upd_self (m : PH) (b : Nat) (o : Obj) : m.upd b o b = some o := by simp [PH.upd]
theorem upd_ne {m : PH} {b j : Nat} {o : Obj} (h : j ≠ b) : m.upd b o j = m j := by simp [PH.upd, h]
theorem uni_upd {mi mt : PH} {b : Nat} {o : Obj} (h : mi b = none) : (uni mi mt).upd b o = uni mi (mt.upd b o) := by
  funext j
  by_cases hj : j = b
  · subst hj; simp [PH.upd, uni, h]
  · simp [PH.upd, uni, hj]
theorem dis_upd {mi mt : PH} {b : Nat} {o : Obj} (hd : dis mi mt) (h : mi b = none) : dis mi (mt.upd b o) := by
  intro j
  by_cases hj : j = b
  · subst hj; exact .inl h
  · rw [upd_ne hj]; exact hd j
theorem uni_r {mi mt : PH} (hd : dis mi mt) {b : Nat} {o : Obj} (h : mt b = some o) : uni mi mt b = some o ∧ mi b = none := by
  have hn : mi b = none := by
    rcases hd b with h1 | h1
    · exact h1
    · rw [h1] at h; cases h
  exact ⟨by simp [uni, hn, h], hn⟩

/-- A write to one of its blocks. -/
theorem TreeM.upd {e : TypeId} {m : PH} {L : Lay} {T T' : PT} (h : TreeM e m L T) (r : Role) (hr : act T r) (o' : Obj) (hids : T'.ids = T.ids) (hact : ∀ s, act T' s → act T s) (hnod : (T'.nodes.map (·.1)).Nodup)
    (hh : ∀ idsV o, Holds L T idsV r o → Holds L T' idsV r o') (hs : ∀ s, s ≠ r → act T' s → ∀ idsV o, Holds L T idsV s o → Holds L T' idsV s o) : TreeM e (m.upd (L r) o') L T' := by
  obtain ⟨mi, mt, idsV, rfl, hd, hi, ht⟩ := h
  obtain ⟨o, ho, hho⟩ := ht.has r trivial hr
  obtain ⟨_, hn⟩ := uni_r hd ho
  refine ⟨mi, mt.upd (L r) o', idsV, uni_upd hn, dis_upd hd hn, by rw [hids]; exact hi, ⟨fun s _ hs' => ?_, fun a b _ _ ha hb => ht.sep a b trivial trivial (hact a ha) (hact b hb), hnod⟩⟩
  by_cases hsr : s = r
  · subst hsr
    exact ⟨o', upd_self _ _ _, hh _ _ hho⟩
  · obtain ⟨o2, h2, h3⟩ := ht.has s trivial (hact s hs')
    exact ⟨o2, by rw [upd_ne (fun e => hsr (ht.sep s r trivial trivial (hact s hs') hr e))]; exact h2, hs s hsr hs' _ _ h3⟩
/-- What it holds. -/
theorem TreeM.at {e : TypeId} {m : PH} {L : Lay} {T : PT} (h : TreeM e m L T) (r : Role) (hr : act T r) : ∃ o idsV, m (L r) = some o ∧ Holds L T idsV r o := by
  obtain ⟨mi, mt, idsV, rfl, hd, hi, ht⟩ := h
  obtain ⟨o, ho, hho⟩ := ht.has r trivial hr
  exact ⟨o, idsV, (uni_r hd ho).1, hho⟩
theorem TreeM.nod {e : TypeId} {m : PH} {L : Lay} {T : PT} (h : TreeM e m L T) : (T.nodes.map (·.1)).Nodup := by
  obtain ⟨mi, mt, idsV, _, _, _, ht⟩ := h
  exact ht.nod
end Go.Proofs.Ytdpknchgoeboaaa.Vc

/- What is read of a tree. -/
set_option linter.unusedVariables false
set_option linter.unusedSimpArgs false
namespace Go.Proofs.Ytdpknchgoeboaaa.Vc
open Go

theorem eqG_map {P : Program} {t k e : TypeId} (ht : P.underlying t = some (.map k e)) (b : Nat) : EqG P t (.s (.map (some b))) (.s (.map none)) false := by
  have h0 : ∀ d w, (Op.equalIn (d + 1) t (.map (some b)) (.map none)).run P w = .ok false w := fun d w => by
    simp [Op.equalIn, Sem.run_bind, run_underlying' ht]
  have h : ∀ w, (Op.equal t (.map (some b)) (.map none)).run P w = .ok false w := fun w => h0 9999 w
  intro x y w
  exact ⟨by simp [eqGuard, binOp, Sem.run_bind, GV.val, h], by simp [eqGuard, binOp, Sem.run_bind, GV.val, h]⟩
theorem eqG_ptr' {P : Program} {t e : TypeId} (ht : P.underlying t = some (.pointer e)) (b : Nat) : EqG P t (.s (ptr b)) (.s (.pointer none)) false := eqG_ptr ht _

theorem kn_seen {C : Ctx} {ph : List PH} {m u : PH} (hk : KN C.u0 (m :: ph) u) {b : Nat} {o : Obj} (h : u b = some o) : SeenO C ph m b o := by
  rcases hk b o h with h | ⟨v, hv, h⟩
  · exact .inr (.inr h)
  · rcases List.mem_cons.1 hv with rfl | hv
    · exact .inl h
    · exact .inr (.inl ⟨v, hv, h⟩)
theorem seen_cell {C : Ctx} {ph : List PH} {m u : PH} (hk : KN C.u0 (m :: ph) u) {b : Nat} {cs : Array Value} {e : TypeId} {fz : Nat × Nat} (h : u b = some (.cells cs e fz)) {j : Nat} {v : Value} (hj : cs[j]? = some v) (hv : v.oneCell' = true) : Seen C ph m b j (.s v) :=
  seen_of hk h hv fun i w hi => by
    cases i with
    | zero =>
      obtain rfl : v = w := by simpa [GV.flat] using hi
      simpa using hj
    | succ i => simp [GV.flat] at hi

/-- A node's pointer, if it is there. -/
def nptr : Option PN → Nat → Value
  | some _, b => .pointer (some ⟨b, 0, none⟩)
  | none, _ => .pointer none
theorem nptr_some (x : PN) (b : Nat) : nptr (some x) b = .pointer (some ⟨b, 0, none⟩) := rfl
theorem nptr_none (b : Nat) : nptr none b = .pointer none := rfl
theorem eqN_of {C : Ctx} {t t' : TypeId} (ht : C.P.underlying t = some (.pointer t')) {σ : SS} {d : Option Nat} {K : KT} {o : Option PN} {b : Nat} {neg : Bool} (hK : K (σ.put d (.g (.s (.bool (o.isNone != neg)))))) : eqK C t (.s (nptr o b)) (.s (.pointer none)) neg d K σ := by
  cases o with
  | none => exact eq_of (eqG_nilp ht) hK
  | some x => exact eq_of (eqG_ptr ht _) hK

section
variable {C : Ctx} {ph : List PH} {m u : PH} {e : TypeId} {L : Lay} {T : PT}
theorem TreeM.s_map (h : TreeM e u L T) (hk : KN C.u0 (m :: ph) u) : Seen C ph m (L .t) 0 (.s (.map (some (L .nb)))) := by
  obtain ⟨o, idsV, h1, e', rfl⟩ := h.at .t trivial
  exact seen_cell hk h1 rfl rfl
theorem TreeM.s_mark (h : TreeM e u L T) (hk : KN C.u0 (m :: ph) u) : Seen C ph m (L .t) 1 (.s (ptr (L .mk))) := by
  obtain ⟨o, idsV, h1, e', rfl⟩ := h.at .t trivial
  exact seen_cell hk h1 rfl rfl
theorem TreeM.s_last (h : TreeM e u L T) (hk : KN C.u0 (m :: ph) u) : Seen C ph m (L .t) 4 (.s (.int .i64 T.last)) := by
  obtain ⟨o, idsV, h1, e', rfl⟩ := h.at .t trivial
  exact seen_cell hk h1 rfl rfl
theorem TreeM.s_nodes (h : TreeM e u L T) (hk : KN C.u0 (m :: ph) u) : ∃ o, SeenO C ph m (L .nb) o ∧ MapI (some .i64) o (rawN L T.nodes) := by
  obtain ⟨o, idsV, h1, h2⟩ := h.at .nb trivial
  exact ⟨o, kn_seen hk h1, h2⟩
theorem TreeM.s_node (h : TreeM e u L T) (hk : KN C.u0 (m :: ph) u) {k : Int} {n : PN} (hn : T.get k = some n) :
    Seen C ph m (L (.nd k)) 0 (.s (.int .i64 n.parent)) ∧ Seen C ph m (L (.nd k)) 1 (.s (.string n.name)) ∧ Seen C ph m (L (.nd k)) 2 (.s (.map (some (L (.ab k))))) ∧ Seen C ph m (L (.nd k)) 3 (.s (.map (some (L (.kb k))))) ∧ Seen C ph m (L (.nd k)) 0 (gPlace ⟨n.parent, n.name⟩) := by
  obtain ⟨o, idsV, h1, h2⟩ := h.at (.nd k) ⟨n, hn⟩
  obtain ⟨e', rfl⟩ := h2 n hn
  refine ⟨seen_cell hk h1 rfl rfl, seen_cell hk h1 rfl rfl, seen_cell hk h1 rfl rfl, seen_cell hk h1 rfl rfl, seen_of hk h1 (gPlace_ok _) fun i w hi => ?_⟩
  match i, hi with
  | 0, hi => simpa [gPlace, GV.flat] using hi
  | 1, hi => simpa [gPlace, GV.flat] using hi
  | i + 2, hi => simp [gPlace, GV.flat] at hi
theorem TreeM.s_attrs (h : TreeM e u L T) (hk : KN C.u0 (m :: ph) u) {k : Int} {n : PN} (hn : T.get k = some n) : ∃ o, SeenO C ph m (L (.ab k)) o ∧ MapI none o (rawA n.attrs) := by
  obtain ⟨o, idsV, h1, h2⟩ := h.at (.ab k) ⟨n, hn⟩
  exact ⟨o, kn_seen hk h1, h2 n hn⟩
theorem TreeM.s_kids (h : TreeM e u L T) (hk : KN C.u0 (m :: ph) u) {k : Int} {n : PN} (hn : T.get k = some n) : ∃ o, SeenO C ph m (L (.kb k)) o ∧ MapI (some .i64) o (rawK n.kids) := by
  obtain ⟨o, idsV, h1, h2⟩ := h.at (.kb k) ⟨n, hn⟩
  exact ⟨o, kn_seen hk h1, h2 n hn⟩

variable {σ : SS} {d : Option Nat} {K : KT}
/-- A node looked up. -/
theorem TreeM.lk (h : TreeM e u L T) (hk : KN C.u0 (σ.m :: σ.ph) u) (n : Int) (hK : K (σ.put d (.g (.s (nptr (T.get n) (L (.nd n))))))) : mlkK C (some .i64) (L .nb) (.int .i64 n) (.pointer none) false d K σ := by
  obtain ⟨o, h1, h2⟩ := h.s_nodes hk
  refine ⟨o, _, h1, h2, rfl, ?_⟩
  unfold lkS
  rw [mget_rawN]
  unfold PT.get at hK
  cases hg : getA T.nodes n with
  | none => rw [hg] at hK; exact hK
  | some x => rw [hg] at hK; exact hK
theorem TreeM.len (h : TreeM e u L T) (hk : KN C.u0 (σ.m :: σ.ph) u) (hK : K (σ.put d (.g (.s (.int .i64 T.nodes.length))))) : mlnK C (some .i64) (L .nb) d K σ := by
  obtain ⟨o, h1, h2⟩ := h.s_nodes hk
  refine ⟨o, _, h1, h2, ?_⟩
  rw [show (rawN L T.nodes).length = T.nodes.length by simp [rawN]]
  exact hK
end
end Go.Proofs.Ytdpknchgoeboaaa.Vc

/- When two plain values of a type are the same. -/
set_option linter.unusedVariables false
set_option linter.unusedSimpArgs false
namespace Go.Proofs.Ytdpknchgoeboaaa.Vc
open Go

def eqScB : Value → Value → Bool
  | .int _ a, .int _ b => a == b
  | .bool a, .bool b => a == b
  | .string a, .string b => decide (a = b)
  | _, _ => false

/-- Are two trees of one form the same? -/
def eqGV : GV → GV → Bool
  | .s a, .s b => eqScB a b
  | .u, .u => true
  | .c h t, .c h' t' => eqGV h h' && eqGV t t'
  | .ar n _ f, .ar _ _ g => (List.range n).all fun j => eqGV (f j) (g j)
  | _, _ => false

def kinV : Value → Value → Prop
  | .int k _, .int k' _ => k = k'
  | .bool _, .bool _ => True
  | .string _, .string _ => True
  | _, _ => False
/-- Of one form, and of the same kinds. -/
def kin : GV → GV → Prop
  | .s a, .s b => kinV a b
  | .u, .u => True
  | .c h t, .c h' t' => kin h h' ∧ kin t t'
  | .ar n e f, .ar n' e' g => n = n' ∧ e = e' ∧ ∀ j, j < n → kin (f j) (g j)
  | _, _ => False

theorem kin_same : ∀ (x y : GV), kin x y → GV.same x y
  | .s _, .s _, _ => trivial
  | .u, .u, _ => trivial
  | .c h t, .c h' t', k => ⟨kin_same h h' k.1, kin_same t t' k.2⟩
  | .ar _ _ f, .ar _ _ g, k => ⟨k.1, k.2.1, fun j hj => kin_same (f j) (g j) (k.2.2 j hj)⟩
  | .s _, .u, k | .s _, .c _ _, k | .s _, .ar _ _ _, k | .u, .s _, k | .u, .c _ _, k | .u, .ar _ _ _, k | .c _ _, .s _, k | .c _ _, .u, k | .c _ _, .ar _ _ _, k | .ar _ _ _, .s _, k | .ar _ _ _, .u, k | .ar _ _ _, .c _ _, k => k.elim

def chainB : Nat → GV → Bool
  | 0, .u => true
  | n + 1, .c _ t => chainB n t
  | _, _ => false

/-- Does a type's own tree stand so? -/
def eqShape (P : Program) : Nat → TypeId → GV → Bool
  | 0, _, _ => false
  | d + 1, t, z => match P.underlying t, z with
    | some (.int _), .s (.int _ _) => true
    | some .bool, .s (.bool _) => true
    | some .string, .s (.string _) => true
    | some (.array n e), .ar n' k f => n == n' && (match P.underlying e, P.info? e with
        | some dd, some i => k == i.size && (List.range n).all fun j => (f j).fits i.size (agD dd) && eqShape P d e (f j)
        | _, _ => false)
    | some (.struct fs), z => chainB fs.size z && !P.stoodInHeld t && (List.range fs.size).all fun i => match fs[i]? with
        | some f => f.name != "_" && (match P.underlying f.type, P.info? f.type with
          | some dd, some j => (z.get [i]).isSome && z.offs [i] == f.offset && (z.getT [i]).fits j.size (agD dd) && eqShape P d f.type (z.getT [i])
          | _, _ => false)
        | none => false
    | _, _ => false

theorem kin_get : ∀ (x z : GV) (p : List Nat), kin x z → ∀ y, z.get p = some y → ∃ uu, x.get p = some uu ∧ kin uu y ∧ x.offs p = z.offs p := by
  intro x z p hk y hy
  obtain ⟨e1, uu, e2, e3⟩ := GV.same_get z x p y (GV.same_symm _ _ (kin_same _ _ hk)) hy
  refine ⟨uu, e2, ?_, e1.symm⟩
  clear e1 e3
  induction p generalizing x z with
  | nil =>
    have h1 : x.get [] = some x := by cases x <;> rfl
    have h2 : z.get [] = some z := by cases z <;> rfl
    rw [h1] at e2; rw [h2] at hy
    simp at e2 hy; subst e2; subst hy
    exact hk
  | cons i p ih =>
    induction z generalizing x i with
    | s v => simp [GV.get] at hy
    | u => simp [GV.get] at hy
    | c h t ihh iht =>
      cases x with
      | c h' t' =>
        cases i with
        | zero => exact ih h' h hk.1 (by simpa [GV.get] using hy) (by simpa [GV.get] using e2)
        | succ i => exact iht (x := t') (i := i) hk.2 (by simpa [GV.get] using hy) (by simpa [GV.get] using e2)
      | _ => exact hk.elim
    | ar n e f ihf =>
      cases x with
      | ar n' e' g =>
        simp only [GV.get] at hy e2
        split at hy
        · rename_i hi
          split at e2
          · exact ih (g i) (f i) (hk.2.2 i (by rw [hk.1]; exact hi)) hy e2
          · cases e2
        · cases hy
      | _ => exact hk.elim

theorem kin_fits {x z : GV} (h : kin x z) (n : Nat) (b : Bool) (hf : z.fits n b = true) : x.fits n b = true := by
  have hs := GV.same_sz _ _ (kin_same _ _ h)
  cases x <;> cases z <;> first | exact h.elim | skip
  · exact hf
  · simpa [GV.fits, GV.sz] using hf
  · simp only [GV.fits] at hf ⊢; rw [hs]; exact hf
  · simp only [GV.fits] at hf ⊢; rw [hs]; exact hf

theorem eqGV_chain : ∀ (n : Nat) (x y z : GV), chainB n z = true → kin x z → kin y z → eqGV x y = (List.range n).all fun i => eqGV (x.getT [i]) (y.getT [i])
  | 0, x, y, .u, _, hx, hy => by
    cases x <;> first | exact hx.elim | skip
    cases y <;> first | exact hy.elim | skip
    rfl
  | n + 1, x, y, .c hz tz, hc, hx, hy => by
    cases x <;> first | exact hx.elim | skip
    cases y <;> first | exact hy.elim | skip
    rename_i h t h' t'
    have ih := eqGV_chain n t t' tz hc hx.2 hy.2
    simp only [eqGV, List.range_succ_eq_map, List.all_cons, List.all_map, ih, GV.getT, getT_nil]
    rfl
  | 0, _, _, .s _, hc, _, _ | 0, _, _, .c _ _, hc, _, _ | 0, _, _, .ar _ _ _, hc, _, _ | _ + 1, _, _, .s _, hc, _, _ | _ + 1, _, _, .u, hc, _, _ | _ + 1, _, _, .ar _ _ _, hc, _, _ => by cases hc

theorem chain_ns : ∀ (n : Nat) (z : GV), chainB n z = true → ∀ x, kin x z → ∀ v, x ≠ .s v
  | 0, .u, _, x, hk, v, e => by subst e; exact hk.elim
  | n + 1, .c _ _, _, x, hk, v, e => by subst e; exact hk.elim
  | 0, .s _, hc, _, _, _, _ | 0, .c _ _, hc, _, _, _, _ | 0, .ar _ _ _, hc, _, _, _, _ | _ + 1, .s _, hc, _, _, _, _ | _ + 1, .u, hc, _, _, _, _ | _ + 1, .ar _ _ _, hc, _, _, _, _ => by cases hc

theorem eqR_deep {P : Program} (e : Nat) : ∀ (d : Nat) (t : TypeId) (z x y : GV), eqShape P d t z = true → kin x z → kin y z → x.ok → y.ok → ∀ w, (Op.equalIn (e + d) t x.val y.val).run P w = .ok (eqGV x y) w := by
  intro d
  induction d with
  | zero => intro t z x y h; simp [eqShape] at h
  | succ d ih =>
    intro t z x y h hx hy okx oky w
    unfold eqShape at h
    rw [← Nat.add_assoc]
    split at h
    · rename_i q k m hu
      cases x <;> first | exact hx.elim | skip
      cases y <;> first | exact hy.elim | skip
      rename_i a b
      cases a <;> simp only [kin, kinV] at hx <;> first | exact hx.elim | skip
      cases b <;> simp only [kin, kinV] at hy <;> first | exact hy.elim | skip
      subst hx; subst hy
      exact run_equalIn_int w (e + d) t _ _ _ _ hu
    · rename_i q hu
      cases x <;> first | exact hx.elim | skip
      cases y <;> first | exact hy.elim | skip
      rename_i a b
      cases a <;> simp only [kin, kinV] at hx <;> first | exact hx.elim | skip
      cases b <;> simp only [kin, kinV] at hy <;> first | exact hy.elim | skip
      exact run_equalIn_bool' w (e + d) t _ _ hu
    · rename_i q hu
      cases x <;> first | exact hx.elim | skip
      cases y <;> first | exact hy.elim | skip
      rename_i a b
      cases a <;> simp only [kin, kinV] at hx <;> first | exact hx.elim | skip
      cases b <;> simp only [kin, kinV] at hy <;> first | exact hy.elim | skip
      rename_i s1 s2
      have := run_equalIn_string (P := P) w (e + d) t s1 s2 hu
      simp only [GV.val, eqGV, eqScB]
      rw [this, toList_eq']
    · rename_i n et n' k f hu
      simp only [Bool.and_eq_true, beq_iff_eq] at h
      obtain ⟨rfl, h⟩ := h
      split at h
      · rename_i dd i hdd hi
        simp only [Bool.and_eq_true, beq_iff_eq, List.all_eq_true, List.mem_range] at h
        obtain ⟨rfl, h⟩ := h
        cases x <;> first | exact hx.elim | skip
        cases y <;> first | exact hy.elim | skip
        rename_i n1 k1 f1 n2 k2 f2
        obtain ⟨rfl, rfl, hx⟩ := hx
        obtain ⟨rfl, rfl, hy⟩ := hy
        have hc : P.cellsOf et = i.size := by simp [Program.cellsOf, hi]
        simp only [GV.val]
        rw [run_equalIn_array w (e + d) _ _ hu hi, hc]
        have key : ∀ (is : List Nat), (∀ j ∈ is, j < n2) → (Op.eqItems (e + d) et i.size (GV.flat (.ar n2 i.size f1)).toArray (GV.flat (.ar n2 i.size f2)).toArray is).run P w = .ok (is.all fun j => eqGV (f1 j) (f2 j)) w := by
          intro is
          induction is with
          | nil => intro _; simp [Op.eqItems]
          | cons j is ihl =>
            intro hj
            have hjn := hj j (by simp)
            obtain ⟨g1, g2⟩ := GV.get_ar n2 i.size f1 j hjn
            obtain ⟨g3, g4⟩ := GV.get_ar n2 i.size f2 j hjn
            have hf := (h j hjn).1
            have p1 := run_part (P := P) hdd hi okx g1 (kin_fits (hx j hjn) _ _ hf) w
            have p2 := run_part (P := P) hdd hi oky g3 (kin_fits (hy j hjn) _ _ hf) w
            rw [g2] at p1; rw [g4] at p2
            have p3 := ih et (f j) (f1 j) (f2 j) (h j hjn).2 (hx j hjn) (hy j hjn) (okx j hjn).1 (oky j hjn).1 w
            simp only [Op.eqItems, Sem.run_bind, p1, p2, p3, Result.andThen_ok, List.all_cons]
            cases hr : eqGV (f1 j) (f2 j)
            · simp
            · simpa using ihl (fun j hj' => hj j (by simp [hj']))
        exact key _ (fun j hj => List.mem_range.1 hj)
      · cases h
    · rename_i zz _ _ fs hu
      simp only [Bool.and_eq_true, Bool.not_eq_true', List.all_eq_true, List.mem_range] at h
      obtain ⟨⟨hch, hst⟩, h⟩ := h
      have hfs : P.fieldsOf t = fs := by simp [Program.fieldsOf, hu]
      rw [val_agg (chain_ns _ _ hch x hx), val_agg (chain_ns _ _ hch y hy), run_equalIn_struct w (e + d) t _ _ (by rw [hfs]; exact hu) hst, hfs, eqGV_chain _ _ _ _ hch hx hy]
      have key : ∀ (l : List Field) (k : Nat), (∀ j, l[j]? = fs[k + j]?) → (Op.eqFields (e + d) (GV.flat x).toArray (GV.flat y).toArray l).run P w = .ok ((List.range' k l.length).all fun i => eqGV (x.getT [i]) (y.getT [i])) w := by
        intro l
        induction l with
        | nil => intro k _; simp [Op.eqFields]
        | cons f l ihl =>
          intro k hl
          have h0 : fs[k]? = some f := by simpa using (hl 0).symm
          have hk : k < fs.size := (Array.getElem?_eq_some_iff.1 h0).1
          have h1 := h k hk
          rw [h0] at h1
          simp only [Bool.and_eq_true, bne_iff_ne, ne_eq] at h1
          obtain ⟨hn, h1⟩ := h1
          split at h1
          · rename_i dd i hdd hi
            simp only [Bool.and_eq_true, beq_iff_eq] at h1
            obtain ⟨⟨⟨hs, ho⟩, hfit⟩, hsh⟩ := h1
            obtain ⟨uu, hu'⟩ := Option.isSome_iff_exists.mp hs
            obtain ⟨u1, a1, a2, a3⟩ := kin_get x zz [k] hx uu hu'
            obtain ⟨u2, b1, b2, b3⟩ := kin_get y zz [k] hy uu hu'
            rw [GV.getT_of zz [k] uu hu'] at hfit hsh
            have p1 := run_part (P := P) hdd hi okx a1 (kin_fits a2 _ _ hfit) w
            have p2 := run_part (P := P) hdd hi oky b1 (kin_fits b2 _ _ hfit) w
            rw [a3, ho] at p1; rw [b3, ho] at p2
            have p3 := ih f.type uu u1 u2 hsh a2 b2 (GV.get_at x [k] u1 okx a1).1 (GV.get_at y [k] u2 oky b1).1 w
            have ihl' := ihl (k + 1) (fun j => by have := hl (j + 1); simpa [Nat.add_assoc, Nat.add_comm 1 j] using this)
            simp only [Op.eqFields, hn, ne_eq, not_false_eq_true, if_true, Sem.run_bind, p1, p2, p3, Result.andThen_ok, List.length_cons, List.range'_succ, List.all_cons, GV.getT_of x [k] u1 a1, GV.getT_of y [k] u2 b1]
            cases hr : eqGV u1 u2
            · simp
            · simpa using ihl'
          · cases h1
      have := key fs.toList 0 (by simp)
      rw [this]
      simp [List.range_eq_range']
    · cases h

theorem eqG_of {P : Program} {t : TypeId} {z x y : GV} (h1 : eqShape P 20 t z = true) (h2 : P.eqGuardType P.depth t = false) (hn : z.isS = false) (hx : kin x z) (hy : kin y z) (okx : x.ok) (oky : y.ok) : EqG P t x y (eqGV x y) := by
  have key : ∀ uu, kin uu z → uu.val = .agg (GV.flat uu).toArray := fun uu hu => val_agg (fun v e => by
    subst e
    cases z <;> first | exact hu.elim | skip
    cases hn)
  have h := fun w => eqR_deep (P := P) 9980 20 t z x y h1 hx hy okx oky w
  intro a b w
  have hw := h w
  rw [key x hx, key y hy] at hw ⊢
  constructor
  · rw [Sem.run_bind, run_eqGuard_agg w _ _ _ _ _ _ h2, Result.andThen_ok, run_eql_struct w, hw]; rfl
  · rw [Sem.run_bind, run_eqGuard_agg w _ _ _ _ _ _ h2, Result.andThen_ok, run_neq_struct w, hw]; rfl

theorem eqG_bool {P : Program} {t : TypeId} (hu : P.underlying t = some .bool) (a b : Bool) : EqG P t (.s (.bool a)) (.s (.bool b)) (a == b) := by
  intro x y w
  have h : (Op.equal t (.bool a) (.bool b)).run P w = .ok (a == b) w := run_equalIn_bool' w 9999 t a b hu
  constructor <;> simp [eqGuard, binOp, GV.val, Sem.run_bind, h]

end Go.Proofs.Ytdpknchgoeboaaa.Vc

/- The code of some functions of the program, its types resolved: printed by a program of this claim. -/
set_option linter.unusedVariables false
set_option maxRecDepth 100000
namespace Go.Proofs.Ytdpknchgoeboaaa.Vc
open Go Go.Proofs

abbrev f_tree_top : Nat := 38
def c_tree_top : Cd :=
 (.seq (.rg [⟨none, [(some 2, .mv (.c (.bool false)))]⟩] [0])
 (.seq (.rg [⟨none, [(some 3, .mv (.t 0)), (some 4, .bin .eql (.t 3) (.c (.int .i64 1))), (some 5, .mv (.t 4))]⟩, ⟨some (5, false), [(some 6, .mv (.t 0)), (some 7, .bin .eql (.t 6) (.c (.int .i64 2)))]⟩, ⟨none, [(some 8, .pick (.t 5) (.c (.bool true)) (.t 7)), (some 2, .mv (.t 8))]⟩] [2])
 .ret))
theorem k_tree_top : Ok Try.prog 38 c_tree_top 9 [] [.tmp 2] := Ok.mk' Try.func38 (by kernel_rfl) (by kernel_rfl) (by kernel_rfl)

abbrev f_tree_Tree_none : Nat := 34
def c_tree_Tree_none : Cd :=
 (.seq (.rg [⟨none, [(some 2, .mv (.c (.bool false)))]⟩] [0])
 (.seq (.rg [⟨none, [(some 3, .mv (.t 0)), (some 4, .eqA false 25 (.t 3) (.c (.pointer none))), (some 5, .mv (.t 4))]⟩, ⟨some (5, false), [(some 6, .mv (.t 0)), (some 7, .nilc (.t 6)), (some 8, .fldA (.t 7) 0 0), (some 9, .ld (.t 8) 1 false), (some 10, .eqA false 73 (.t 9) (.c (.map none)))]⟩, ⟨none, [(some 11, .pick (.t 5) (.c (.bool true)) (.t 10)), (some 2, .mv (.t 11))]⟩] [2])
 .ret))
theorem k_tree_Tree_none : Ok Try.prog 34 c_tree_Tree_none 12 [] [.tmp 2] := Ok.mk' Try.func34 (by kernel_rfl) (by kernel_rfl) (by kernel_rfl)

abbrev f_tree_bare : Nat := 41
def c_tree_bare : Cd :=
 (.seq (.rg [⟨none, [(some 0, .mv (.c (.pointer none)))]⟩] [])
 (.seq (.rg [⟨none, [(some 1, .mkm), (some 2, .mkm), (some 3, .bld (.c (.c (.s (.int .i64 0)) (.c (.s (.string ⟨#[]⟩)) .u)) (.c (.s (.map none)) (.c (.s (.map none)) .u))) [(1, (.t 1)), (2, (.t 2))]), (some 4, .box 98 (.t 3)), (some 0, .mv (.t 4)), (none, .gh)]⟩] [0])
 .ret))
theorem k_tree_bare : Ok Try.prog 41 c_tree_bare 5 [] [.tmp 0] := Ok.mk' Try.func41 (by kernel_rfl) (by kernel_rfl) (by kernel_rfl)

abbrev f_tree_New : Nat := 33
def c_tree_New : Cd :=
 (.seq (.rg [⟨none, [(some 0, .mv (.c (.pointer none)))]⟩] [])
 (.seq (.rg [⟨none, [(some 1, .mkm), (some 2, .call 41 []), (none, .mup (some .i64) (.t 1) (.c (.int .i64 1)) (.t 2)), (some 3, .call 41 []), (none, .mup (some .i64) (.t 1) (.c (.int .i64 2)) (.t 3)), (some 4, .mv (.t 1)), (some 5, .bld (.c (.s (.int .u8 0)) .u) []), (some 6, .box 124 (.t 5)), (none, .gh), (some 7, .bld (.c (.s (.map none)) (.c (.s (.pointer none)) (.c (.s (.int .i64 0)) (.c (.s (.slice none 0 0)) (.c (.s (.int .i64 0)) .u))))) [(0, (.t 4)), (1, (.t 6))]), (some 8, .box 76 (.t 7)), (some 0, .mv (.t 8)), (none, .gh)]⟩] [0])
 .ret))
theorem k_tree_New : Ok Try.prog 33 c_tree_New 9 [] [.tmp 0] := Ok.mk' Try.func33 (by kernel_rfl) (by kernel_rfl) (by kernel_rfl)

abbrev f_tree_Tree_put : Nat := 42
def c_tree_Tree_put_R4 : Cd :=
 (.seq (.gh (.rgq [⟨none, [(some 30, .mv (.t 0)), (some 31, .nilc (.t 30)), (some 32, .fldA (.t 31) 0 0), (some 33, .ld (.t 32) 1 false), (some 34, .mv (.t 1)), (some 35, .mlk (some .i64) (.t 33) (.t 34) (.pointer none) false), (some 36, .ld (.t 5) 2 true)]⟩] [⟨none, [(some 37, .nilc (.t 35)), (some 38, .fldA (.t 37) 0 0), (none, .st (.t 38) (.t 36) 2)]⟩] [0, 1, 5]))
 (.seq (.rgq [⟨none, [(some 39, .mv (.t 0)), (some 40, .nilc (.t 39)), (some 41, .fldA (.t 40) 0 0), (some 42, .ld (.t 41) 1 false), (some 43, .fldA (.t 5) 0 0), (some 44, .ld (.t 43) 1 false)]⟩] [⟨none, [(some 45, .mlk (some .i64) (.t 42) (.t 44) (.pointer none) false), (some 7, .mv (.t 45))]⟩] [1, 7])
 (.seq (.rg [⟨none, [(some 46, .mv (.t 7)), (some 47, .eqA true 90 (.t 46) (.c (.pointer none)))]⟩] [1, 7, 47])
 (.ite (.t 47)
 (.rg [⟨none, [(some 48, .mv (.t 7)), (some 49, .nilc (.t 48)), (some 50, .fldA (.t 49) 2 3), (some 51, .ld (.t 50) 1 false), (some 52, .mv (.t 1)), (none, .mup (some .i64) (.t 51) (.t 52) (.c (.int .i64 1)))]⟩] [])
 .skip))))
def c_tree_Tree_put : Cd :=
 (.seq (.rg [⟨none, [(some 5, .box 39 (.t 2))]⟩] [0, 1, 5])
 (.seq (.seq (.rgq [⟨none, [(some 8, .mv (.t 0)), (some 9, .nilc (.t 8)), (some 10, .fldA (.t 9) 0 0), (some 11, .ld (.t 10) 1 false), (some 12, .mv (.t 0)), (some 13, .nilc (.t 12)), (some 14, .fldA (.t 13) 0 0), (some 15, .ld (.t 14) 1 false), (some 16, .mv (.t 1)), (some 17, .mlk (some .i64) (.t 15) (.t 16) (.pointer none) false), (some 18, .nilc (.t 17)), (some 19, .fldA (.t 18) 0 0), (some 20, .fldA (.t 19) 0 0), (some 21, .ld (.t 20) 1 false)]⟩] [⟨none, [(some 22, .mlk (some .i64) (.t 11) (.t 21) (.pointer none) false), (some 6, .mv (.t 22))]⟩] [0, 1, 5, 6])
 (.seq (.rg [⟨none, [(some 23, .mv (.t 6)), (some 24, .eqA true 90 (.t 23) (.c (.pointer none)))]⟩] [0, 1, 5, 6, 24])
 (.ite (.t 24)
 (.rg [⟨none, [(some 25, .mv (.t 6)), (some 26, .nilc (.t 25)), (some 27, .fldA (.t 26) 2 3), (some 28, .ld (.t 27) 1 false), (some 29, .mv (.t 1)), (none, .mdl (some .i64) (.t 28) (.t 29))]⟩] [0, 1, 5])
 .skip)))
 c_tree_Tree_put_R4))
theorem k_tree_Tree_put : Ok Try.prog 42 c_tree_Tree_put 53 [(1, 14), (4, 7), (5, 6)] [] := Ok.mk' Try.func42 (by kernel_rfl) (by kernel_rfl) (by kernel_rfl)

abbrev f_tree_Tree_below : Nat := 39
def c_tree_Tree_below_L0 : Cd :=
 (.seq (.rg [⟨none, [(some 15, .bin .lss (.t 14) (.t 13))]⟩] [0, 1, 2, 13, 14, 15])
 (.seq (.ite (.t 15)
 .skip
 (.exit 0))
 (.seq (.block 1 (.seq (.seq (.rg [⟨none, [(some 16, .mv (.t 1)), (some 17, .mv (.t 2)), (some 18, .bin .eql (.t 16) (.t 17))]⟩] [0, 1, 2, 13, 14, 18])
 (.ite (.t 18)
 (.seq (.rg [⟨none, [(some 6, .mv (.c (.bool true)))]⟩] [6])
 .ret)
 .skip))
 (.seq (.rg [⟨none, [(some 19, .mv (.t 0)), (some 20, .nilc (.t 19)), (some 21, .fldA (.t 20) 0 0), (some 22, .ld (.t 21) 1 false), (some 23, .mv (.t 1)), (some 24, .mlk (some .i64) (.t 22) (.t 23) (.pointer none) false), (some 7, .mv (.t 24))]⟩] [0, 1, 2, 7, 13, 14])
 (.seq (.seq (.rg [⟨none, [(some 25, .mv (.t 7)), (some 26, .eqA false 90 (.t 25) (.c (.pointer none))), (some 27, .mv (.t 26))]⟩, ⟨some (27, false), [(some 28, .mv (.t 1)), (some 29, .call 38 [(.t 28)])]⟩, ⟨none, [(some 30, .pick (.t 27) (.c (.bool true)) (.t 29))]⟩] [0, 2, 7, 13, 14, 30])
 (.ite (.t 30)
 (.seq (.rg [⟨none, [(some 6, .mv (.c (.bool false)))]⟩] [6])
 .ret)
 .skip))
 (.rg [⟨none, [(some 31, .mv (.t 7)), (some 32, .nilc (.t 31)), (some 33, .fldA (.t 32) 0 0), (some 34, .fldA (.t 33) 0 0), (some 35, .ld (.t 34) 1 false), (some 1, .mv (.t 35))]⟩] [0, 1, 2, 13, 14])))))
 (.rg [⟨none, [(some 36, .bin .add (.t 14) (.c (.int .i64 1))), (some 14, .mv (.t 36))]⟩] [0, 1, 2, 13, 14]))))
def c_tree_Tree_below : Cd :=
 (.seq (.rg [⟨none, [(some 6, .mv (.c (.bool false)))]⟩] [0, 1, 2])
 (.seq (.seq (.rg [⟨none, [(some 8, .mv (.t 0)), (some 9, .nilc (.t 8)), (some 10, .fldA (.t 9) 0 0), (some 11, .ld (.t 10) 1 false), (some 12, .mln (some .i64) (.t 11)), (some 13, .bin .add (.t 12) (.c (.int .i64 1))), (some 14, .mv (.c (.int .i64 0)))]⟩] [0, 1, 2, 13, 14])
 (.block 0 (.loop c_tree_Tree_below_L0)))
 (.seq (.rg [⟨none, [(some 6, .mv (.c (.bool false)))]⟩] [6])
 .ret)))
theorem k_tree_Tree_below : Ok Try.prog 39 c_tree_Tree_below 37 [] [.tmp 6] := Ok.mk' Try.func39 (by kernel_rfl) (by kernel_rfl) (by kernel_rfl)

abbrev f_tree_Tree_May : Nat := 15
def c_tree_Tree_May : Cd :=
 (.seq (.rg [⟨none, [(some 3, .box 35 (.t 1)), (some 4, .mv (.c (.bool false)))]⟩] [0, 3])
 (.seq (.seq (.rg [⟨none, [(some 7, .mv (.t 0)), (some 8, .call 34 [(.t 7)])]⟩] [0, 3, 8])
 (.ite (.t 8)
 (.seq (.rg [⟨none, [(some 4, .mv (.c (.bool false)))]⟩] [4])
 .ret)
 .skip))
 (.seq (.rgq [⟨none, [(some 9, .mv (.t 0)), (some 10, .nilc (.t 9)), (some 11, .fldA (.t 10) 0 0), (some 12, .ld (.t 11) 1 false), (some 13, .fldA (.t 3) 2 3), (some 14, .ld (.t 13) 1 false), (some 15, .mlk (some .i64) (.t 12) (.t 14) (.pointer none) false), (some 16, .eqA true 90 (.t 15) (.c (.pointer none))), (some 17, .mv (.t 0)), (some 18, .nilc (.t 17)), (some 19, .fldA (.t 18) 0 0), (some 20, .ld (.t 19) 1 false), (some 21, .fldA (.t 3) 3 4), (some 22, .ld (.t 21) 1 false), (some 23, .mlk (some .i64) (.t 20) (.t 22) (.pointer none) false), (some 24, .eqA true 90 (.t 23) (.c (.pointer none))), (some 5, .mv (.t 16))]⟩] [⟨none, [(some 6, .mv (.t 24))]⟩] [0, 3, 5, 6])
 (.seq (.seq (.rg [⟨none, [(some 25, .fldA (.t 3) 1 2), (some 26, .ld (.t 25) 1 false)]⟩] [0, 3, 5, 6, 26])
 (.block 0 (.seq (.rg [⟨none, [(some 28, .bin .eql (.t 26) (.c (.int .i64 1))), (some 27, .mv (.t 28))]⟩] [0, 3, 5, 6, 26, 27])
 (.ite (.t 27)
 (.seq (.rg [⟨none, [(some 29, .fldA (.t 3) 2 3), (some 30, .ld (.t 29) 1 false), (some 31, .bin .gtr (.t 30) (.c (.int .i64 2))), (some 32, .mv (.t 31))]⟩, ⟨some (32, true), [(some 33, .mv (.t 5)), (some 34, .un .not (.t 33))]⟩, ⟨none, [(some 35, .pick (.t 32) (.t 34) (.c (.bool false))), (some 36, .mv (.t 35))]⟩, ⟨some (36, true), [(some 37, .mv (.t 6))]⟩, ⟨none, [(some 38, .pick (.t 36) (.t 37) (.c (.bool false))), (some 39, .mv (.t 38))]⟩, ⟨some (39, true), [(some 40, .fldA (.t 3) 4 5), (some 41, .ld (.t 40) 1 false), (some 42, .call 10 [(.t 41)])]⟩, ⟨none, [(some 43, .pick (.t 39) (.t 42) (.c (.bool false))), (some 4, .mv (.t 43))]⟩] [4])
 .ret)
 (.seq (.rg [⟨none, [(some 45, .bin .eql (.t 26) (.c (.int .i64 2))), (some 44, .mv (.t 45))]⟩] [0, 3, 5, 6, 26, 44])
 (.ite (.t 44)
 (.seq (.rg [⟨none, [(some 46, .mv (.t 5)), (some 47, .mv (.t 46))]⟩, ⟨some (47, true), [(some 48, .fldA (.t 3) 2 3), (some 49, .ld (.t 48) 1 false), (some 50, .call 38 [(.t 49)]), (some 51, .un .not (.t 50))]⟩, ⟨none, [(some 52, .pick (.t 47) (.t 51) (.c (.bool false))), (some 53, .mv (.t 52))]⟩, ⟨some (53, true), [(some 54, .mv (.t 6))]⟩, ⟨none, [(some 55, .pick (.t 53) (.t 54) (.c (.bool false))), (some 56, .mv (.t 55))]⟩, ⟨some (56, true), [(some 57, .mv (.t 0)), (some 58, .fldA (.t 3) 3 4), (some 59, .ld (.t 58) 1 false), (some 60, .fldA (.t 3) 2 3), (some 61, .ld (.t 60) 1 false), (some 62, .call 39 [(.t 57), (.t 59), (.t 61)]), (some 63, .un .not (.t 62))]⟩, ⟨none, [(some 64, .pick (.t 56) (.t 63) (.c (.bool false))), (some 65, .mv (.t 64))]⟩, ⟨some (65, true), [(some 66, .fldA (.t 3) 4 5), (some 67, .ld (.t 66) 1 false), (some 68, .call 10 [(.t 67)])]⟩, ⟨none, [(some 69, .pick (.t 65) (.t 68) (.c (.bool false))), (some 4, .mv (.t 69))]⟩] [4])
 .ret)
 (.seq (.rg [⟨none, [(some 71, .bin .eql (.t 26) (.c (.int .i64 3))), (some 70, .mv (.t 71))]⟩] [3, 5, 70])
 (.ite (.t 70)
 (.seq (.rg [⟨none, [(some 72, .mv (.t 5)), (some 73, .mv (.t 72))]⟩, ⟨some (73, true), [(some 74, .fldA (.t 3) 5 6), (some 75, .ld (.t 74) 1 false), (some 76, .fldA (.t 3) 6 7), (some 77, .ld (.t 76) 1 false), (some 78, .call 40 [(.t 75), (.t 77)])]⟩, ⟨none, [(some 79, .pick (.t 73) (.t 78) (.c (.bool false))), (some 4, .mv (.t 79))]⟩] [4])
 .ret)
 .skip))))))))
 (.seq (.rg [⟨none, [(some 4, .mv (.c (.bool false)))]⟩] [4])
 .ret)))))
theorem k_tree_Tree_May : Ok Try.prog 15 c_tree_Tree_May 80 [(3, 17)] [.tmp 4] := Ok.mk' Try.func15 (by kernel_rfl) (by kernel_rfl) (by kernel_rfl)

abbrev f_tree_Name : Nat := 10
def c_tree_Name_L0 : Cd :=
 (.seq (.rg [⟨none, [(some 24, .bin .lss (.t 23) (.t 22))]⟩] [21, 22, 23, 24])
 (.seq (.ite (.t 24)
 .skip
 (.exit 0))
 (.seq (.block 1 (.seq (.rg [⟨none, [(some 25, .idxS (.t 21) (.t 23) 1), (some 26, .ld (.t 25) 1 false), (some 4, .mv (.t 26))]⟩] [4, 21, 22, 23])
 (.seq (.rg [⟨none, [(some 27, .mv (.t 4)), (some 28, .bin .eql (.t 27) (.c (.int .u8 47)))]⟩] [21, 22, 23, 28])
 (.ite (.t 28)
 (.seq (.rg [⟨none, [(some 2, .mv (.c (.bool false)))]⟩] [2])
 .ret)
 .skip))))
 (.rg [⟨none, [(some 29, .bin .add (.t 23) (.c (.int .i64 1))), (some 23, .mv (.t 29))]⟩] [21, 22, 23]))))
def c_tree_Name : Cd :=
 (.seq (.rg [⟨none, [(some 2, .mv (.c (.bool false)))]⟩] [0])
 (.seq (.seq (.rg [⟨none, [(some 5, .mv (.t 0)), (some 6, .bin .eql (.t 5) (.c (.string ⟨#[]⟩))), (some 7, .mv (.t 6))]⟩, ⟨some (7, false), [(some 8, .mv (.t 0)), (some 9, .lenS (.t 8)), (some 10, .bin .gtr (.t 9) (.c (.int .i64 255)))]⟩, ⟨none, [(some 11, .pick (.t 7) (.c (.bool true)) (.t 10)), (some 12, .mv (.t 11))]⟩, ⟨some (12, false), [(some 13, .mv (.t 0)), (some 14, .bin .eql (.t 13) (.c (.string ⟨#[46]⟩)))]⟩, ⟨none, [(some 15, .pick (.t 12) (.c (.bool true)) (.t 14)), (some 16, .mv (.t 15))]⟩, ⟨some (16, false), [(some 17, .mv (.t 0)), (some 18, .bin .eql (.t 17) (.c (.string ⟨#[46, 46]⟩)))]⟩, ⟨none, [(some 19, .pick (.t 16) (.c (.bool true)) (.t 18))]⟩] [0, 19])
 (.ite (.t 19)
 (.seq (.rg [⟨none, [(some 2, .mv (.c (.bool false)))]⟩] [2])
 .ret)
 .skip))
 (.seq (.seq (.rg [⟨none, [(some 20, .mv (.t 0)), (some 21, .s2b 5 (.t 20)), (some 22, .len (.t 21)), (some 23, .mv (.c (.int .i64 0)))]⟩] [21, 22, 23])
 (.block 0 (.loop c_tree_Name_L0)))
 (.seq (.rg [⟨none, [(some 2, .mv (.c (.bool true)))]⟩] [2])
 .ret))))
theorem k_tree_Name : Ok Try.prog 10 c_tree_Name 30 [] [.tmp 2] := Ok.mk' Try.func10 (by kernel_rfl) (by kernel_rfl) (by kernel_rfl)

abbrev f_ref12_Name : Nat := 11
def c_ref12_Name_L0 : Cd :=
 (.seq (.seq (.rg [⟨none, [(some 19, .mv (.t 3)), (some 20, .mv (.t 0)), (some 21, .lenS (.t 20)), (some 22, .bin .lss (.t 19) (.t 21))]⟩] [0, 3, 22])
 (.ite (.t 22)
 .skip
 (.exit 0)))
 (.seq (.block 1 (.seq (.rg [⟨none, [(some 25, .mv (.t 0)), (some 26, .mv (.t 3)), (some 27, .strI (.t 25) (.t 26)), (some 28, .bin .eql (.t 27) (.c (.int .u8 47)))]⟩] [0, 3, 28])
 (.ite (.t 28)
 (.seq (.rg [⟨none, [(some 2, .mv (.c (.bool false)))]⟩] [2])
 .ret)
 .skip)))
 (.rg [⟨none, [(some 23, .mv (.t 3)), (some 24, .bin .add (.t 23) (.c (.int .i64 1))), (some 3, .mv (.t 24))]⟩] [0, 3])))
def c_ref12_Name : Cd :=
 (.seq (.rg [⟨none, [(some 2, .mv (.c (.bool false)))]⟩] [0])
 (.seq (.seq (.rg [⟨none, [(some 4, .mv (.t 0)), (some 5, .bin .eql (.t 4) (.c (.string ⟨#[]⟩))), (some 6, .mv (.t 5))]⟩, ⟨some (6, false), [(some 7, .mv (.t 0)), (some 8, .lenS (.t 7)), (some 9, .bin .gtr (.t 8) (.c (.int .i64 255)))]⟩, ⟨none, [(some 10, .pick (.t 6) (.c (.bool true)) (.t 9)), (some 11, .mv (.t 10))]⟩, ⟨some (11, false), [(some 12, .mv (.t 0)), (some 13, .bin .eql (.t 12) (.c (.string ⟨#[46]⟩)))]⟩, ⟨none, [(some 14, .pick (.t 11) (.c (.bool true)) (.t 13)), (some 15, .mv (.t 14))]⟩, ⟨some (15, false), [(some 16, .mv (.t 0)), (some 17, .bin .eql (.t 16) (.c (.string ⟨#[46, 46]⟩)))]⟩, ⟨none, [(some 18, .pick (.t 15) (.c (.bool true)) (.t 17))]⟩] [0, 18])
 (.ite (.t 18)
 (.seq (.rg [⟨none, [(some 2, .mv (.c (.bool false)))]⟩] [2])
 .ret)
 .skip))
 (.seq (.seq (.rg [⟨none, [(some 3, .mv (.c (.int .i64 0)))]⟩] [0, 3])
 (.block 0 (.loop c_ref12_Name_L0)))
 (.seq (.rg [⟨none, [(some 2, .mv (.c (.bool true)))]⟩] [2])
 .ret))))
theorem k_ref12_Name : Ok Try.prog 11 c_ref12_Name 29 [] [.tmp 2] := Ok.mk' Try.func11 (by kernel_rfl) (by kernel_rfl) (by kernel_rfl)

abbrev f_tree_pair : Nat := 40
def c_tree_pair : Cd :=
 (.seq (.rg [⟨none, [(some 4, .mv (.c (.bool false)))]⟩] [0, 1])
 (.seq (.rg [⟨none, [(some 5, .mv (.t 0)), (some 6, .bin .neq (.t 5) (.c (.string ⟨#[]⟩))), (some 7, .mv (.t 6))]⟩, ⟨some (7, true), [(some 8, .mv (.t 0)), (some 9, .lenS (.t 8)), (some 10, .bin .leq (.t 9) (.c (.int .i64 255)))]⟩, ⟨none, [(some 11, .pick (.t 7) (.t 10) (.c (.bool false))), (some 12, .mv (.t 11))]⟩, ⟨some (12, true), [(some 13, .mv (.t 1)), (some 14, .lenS (.t 13)), (some 15, .bin .leq (.t 14) (.c (.int .i64 255)))]⟩, ⟨none, [(some 16, .pick (.t 12) (.t 15) (.c (.bool false))), (some 4, .mv (.t 16))]⟩] [4])
 .ret))
theorem k_tree_pair : Ok Try.prog 40 c_tree_pair 17 [] [.tmp 4] := Ok.mk' Try.func40 (by kernel_rfl) (by kernel_rfl) (by kernel_rfl)

abbrev f_tree_Tree_Len : Nat := 14
def c_tree_Tree_Len : Cd :=
 (.seq (.rg [⟨none, [(some 2, .mv (.c (.int .i64 0)))]⟩] [0])
 (.seq (.seq (.rg [⟨none, [(some 3, .mv (.t 0)), (some 4, .call 34 [(.t 3)])]⟩] [0, 4])
 (.ite (.t 4)
 (.seq (.rg [⟨none, [(some 2, .mv (.c (.int .i64 0)))]⟩] [2])
 .ret)
 .skip))
 (.seq (.rg [⟨none, [(some 5, .mv (.t 0)), (some 6, .nilc (.t 5)), (some 7, .fldA (.t 6) 0 0), (some 8, .ld (.t 7) 1 false), (some 9, .mln (some .i64) (.t 8)), (some 2, .mv (.t 9))]⟩] [2])
 .ret)))
theorem k_tree_Tree_Len : Ok Try.prog 14 c_tree_Tree_Len 10 [] [.tmp 2] := Ok.mk' Try.func14 (by kernel_rfl) (by kernel_rfl) (by kernel_rfl)

end Go.Proofs.Ytdpknchgoeboaaa.Vc

/- Names: what the functions compute. -/
set_option linter.unusedVariables false
set_option linter.unusedSimpArgs false
set_option maxRecDepth 100000
namespace Go.Proofs.Ytdpknchgoeboaaa.Vc
open Go Go.Proofs

/-- May it be a name? -/
def nameA (l : List UInt8) : Bool := !l.isEmpty && decide (l.length ≤ 255) && !(l == [46]) && !(l == [46, 46]) && !l.contains 47
theorem nameA_no {l : List UInt8} (h : nameA l = true) : 47 ∉ l := by
  simp only [nameA, Bool.and_eq_true, Bool.not_eq_true', List.contains_eq_mem, decide_eq_false_iff_not] at h
  exact h.2
theorem nameA_ne {l : List UInt8} (h : nameA l = true) : l ≠ [] := by
  simp only [nameA, Bool.and_eq_true, Bool.not_eq_true', List.isEmpty_eq_false_iff] at h
  exact h.1.1.1.1
theorem nameA_len {l : List UInt8} (h : nameA l = true) : l.length ≤ 255 := by
  simp only [nameA, Bool.and_eq_true, decide_eq_true_eq] at h
  exact h.1.1.1.2
def mkS (l : List UInt8) : ByteArray := ⟨l.toArray⟩
theorem mkS_list (l : List UInt8) : (mkS l).data.toList = l := rfl
theorem mkS_of (b : ByteArray) : mkS b.data.toList = b := rfl
theorem mkS_inj {a b : List UInt8} (h : mkS a = mkS b) : a = b := by
  have := congrArg (fun x : ByteArray => x.data.toList) h
  simpa [mkS] using this
theorem mkS_size (l : List UInt8) : (mkS l).size = l.length := by simp [mkS, ByteArray.size]
def gN (n : List UInt8) : GV := .s (.string (mkS n))
theorem gN_ok (n : List UInt8) : (gN n).ok := rfl
theorem getD_gN (ns : List (List UInt8)) (i : Nat) : (ns.map gN).getD i (.s (.string ⟨#[]⟩)) = .s (.string (mkS (ns.getD i []))) := by
  rw [List.getD_eq_getElem?_getD, List.getElem?_map, List.getD_eq_getElem?_getD]
  cases ns[i]? <;> rfl

theorem mkS_eq (n l : List UInt8) : (mkS n = mkS l) = (n = l) := propext ⟨mkS_inj, fun h => by rw [h]⟩
theorem mkS_e0 (n : List UInt8) : (mkS n = ⟨#[]⟩) = (n = []) := mkS_eq n []
theorem mkS_e46 (n : List UInt8) : (mkS n = ⟨#[46]⟩) = (n = [46]) := mkS_eq n [46]
theorem mkS_e4646 (n : List UInt8) : (mkS n = ⟨#[46, 46]⟩) = (n = [46, 46]) := mkS_eq n [46, 46]
theorem mkS_e47 (n : List UInt8) : (mkS n = ⟨#[47]⟩) = (n = [47]) := mkS_eq n [47]
theorem mkS_at (n : List UInt8) (i : Nat) : (mkS n).data.getD i 0 = n.getD i 0 := by simp [mkS, Array.getD_eq_getD_getElem?, List.getD_eq_getElem?_getD]
theorem mkS_ext (n : List UInt8) (a b : Nat) : (mkS n).extract a b = mkS ((n.drop a).take (b - a)) := by
  apply ByteArray.ext
  simp [mkS, ByteArray.data_extract]
theorem getD_gb (n : List UInt8) (i : Nat) : (n.map gb).getD i (gb 0) = .s (.int .u8 (n.getD i 0).toNat) := by
  rw [List.getD_eq_getElem?_getD, List.getElem?_map, List.getD_eq_getElem?_getD]
  cases n[i]? <;> rfl
theorem byte47 (b : UInt8) : ((b.toNat : Int) == 47) = (b == 47) := by
  by_cases h : b = 47
  · subst h; rfl
  · have h2 : b.toNat ≠ 47 := fun e => h (by rw [← UInt8.ofNat_toNat (x := b), e]; rfl)
    rw [show (b == 47) = false by simpa using h]
    simpa using fun e => h2 (by omega)

theorem nameA_bad {n : List UInt8} (h : n = [] ∨ ¬ n.length ≤ 255 ∨ n = [46] ∨ n = [46, 46]) : nameA n = false := by
  rcases h with rfl | h | rfl | rfl
  · rfl
  · simp [nameA]; intro _ h2; omega
  · decide
  · decide
theorem nameA_slash {n : List UInt8} {i : Nat} (hi : i < n.length) (h : n.getD i 0 = 47) : nameA n = false := by
  have : 47 ∈ n := by
    rw [List.getD_eq_getElem?_getD, List.getElem?_eq_getElem hi] at h
    simp at h
    rw [← h]
    exact List.getElem_mem _
  cases hn : nameA n with
  | false => rfl
  | true => exact absurd this (nameA_no hn)
theorem nameA_good {n : List UInt8} (h1 : n ≠ []) (h2 : n.length ≤ 255) (h3 : n ≠ [46]) (h4 : n ≠ [46, 46]) (h5 : ∀ j, j < n.length → n.getD j 0 ≠ 47) : nameA n = true := by
  have : 47 ∉ n := fun h => by
    obtain ⟨j, hj, e⟩ := List.mem_iff_getElem.1 h
    exact h5 j hj (by rw [List.getD_eq_getElem?_getD, List.getElem?_eq_getElem hj]; simpa using e)
  simp [nameA, h1, h2, h3, h4, this]

theorem Name_fn (n : List UInt8) (hb : n.length ≤ 140737488355328) : FnV Try.prog f_tree_Name [gN n] [.s (.bool (nameA n))] := by
  refine spec_fnv k_tree_Name (by simp) (by simp [gN_ok]) fun w => ?_
  simp (maxSteps := 2000000) only [c_tree_Name, gN, vc_skip, vc_ret, vc_seq, vc_block, vc_rg, vc_ite, thenQ_n, thenQ_r, kKeep_eq, segs_nil, segs_n, segs_g, ops_nil, ops_cons, vcOp, RO.isGh, skip_mk, skipL, ev, look, updL, put_mk, keep_mk, keepL, binV, binC, Value.oneCell', cond_true, cond_false, Nat.reduceEqDiff, ↓reduceIte, reduceCtorEq, Bool.true_and, Bool.not_false, true_and, initF, List.map_cons, List.map_nil, finW_r, resL, resOne, decide_eq_true_eq, decide_eq_false_iff_not, ↓br_tt, ↓br_tf, ↓br_ft, br_t, br_f, mkS_size, mkS_e0, mkS_e46, mkS_e4646]
  refine ⟨fun h0 => ⟨fun h1 => ⟨fun h2 => ⟨fun h3 => by rw [nameA_bad (.inr (.inr (.inr h3)))], fun h3 u => ?_⟩, fun h2 => by rw [nameA_bad (.inr (.inr (.inl h2)))]⟩, fun h1 => by rw [nameA_bad (.inr (.inl (by omega)))]⟩, fun h0 => by rw [nameA_bad (.inl h0)]⟩
  rw [mkS_list]
  refine vc_loop (ι := Nat) (fun i => ⟨[(21, .row 21 0 (n.length)), (22, .g (.s (.int .i64 (n.length)))), (23, .g (.s (.int .i64 (i))))], [(21, .ro 1 (gb 0) (n.map gb))], [u], PH.no⟩) (fun i => i ≤ n.length ∧ ∀ j, j < i → n.getD j 0 ≠ 47) (fun i => n.length - i) 0 (by simp) (ge_of ?_ ?_ rfl rfl rfl) ?_
  · simp [frIn, look]
  · simp [pvIn, look]
  rintro i ⟨hi, hj⟩
  generalize hQ : loopQ _ _ _ _ _ = Q
  simp (maxSteps := 2000000) only [c_tree_Name_L0, byte47, beq_iff_eq, beq_eq_false_iff_ne, vc_skip, vc_ret, vc_exit, vc_seq, vc_block, vc_rg, vc_ite, thenQ_n, thenQ_r, thenQ_e, blockQ_n, blockQ_r, kKeep_eq, segs_nil, segs_n, ops_nil, ops_cons, vcOp, ev, look, put_mk, keep_mk, keepL, rowE, rowD, binV, binC, Value.oneCell', cond_true, Nat.reduceEqDiff, ↓reduceIte, Nat.zero_add, Bool.true_and, Bool.not_false, true_and, Int.toNat_natCast, decide_eq_true_eq, decide_eq_false_iff_not, ne_eq, br_t, getT_nil, fits_s, getD_gb]
  refine ⟨fun hlt => ⟨by omega, fun h => ?_, fun h => ?_⟩, fun hlt => ?_⟩
  · subst hQ
    simp (maxSteps := 2000000) only [thenQ_r, blockQ_r, loopQ_r, look, ↓reduceIte, finW_r, resL, resOne, ne_eq]
    rw [nameA_slash (i := i) (by omega) h]
  · subst hQ; simp only [loopQ_n]; refine ⟨i + 1, ?_, ?_, ge_of ?_ ?_ rfl rfl rfl⟩
    · refine ⟨by omega, fun j hj2 => ?_⟩
      rcases Nat.lt_succ_iff_lt_or_eq.1 hj2 with h4 | rfl
      · exact hj j h4
      · exact h
    · omega
    · simp only [frIn, look, Nat.reduceEqDiff, ↓reduceIte, Bool.and_true, Bool.true_and, true_and, and_true]
      rw [wrap_n (by omega)]
      try simp
    · simp [pvIn, look]
  · subst hQ
    simp (maxSteps := 2000000) only [vc_ret, vc_seq, vc_rg, thenQ_n, blockQ_e, kKeep_eq, loopQ_e, segs_nil, segs_n, ops_nil, ops_cons, vcOp, ev, look, put_mk, keep_mk, keepL, Value.oneCell', cond_true, ↓reduceIte, finW_r, resL, resOne, ne_eq]
    rw [nameA_good h0 (by omega) h2 h3 fun j hjl => hj j (by omega)]

theorem ref_Name_fn (n : List UInt8) (hb : n.length ≤ 140737488355328) : FnV Try.prog f_ref12_Name [gN n] [.s (.bool (nameA n))] := by
  refine spec_fnv k_ref12_Name (by simp) (by simp [gN_ok]) fun w => ?_
  simp (maxSteps := 2000000) only [c_ref12_Name, gN, vc_skip, vc_ret, vc_seq, vc_block, vc_rg, vc_ite, thenQ_n, thenQ_r, kKeep_eq, segs_nil, segs_n, segs_g, ops_nil, ops_cons, vcOp, RO.isGh, skip_mk, skipL, ev, look, put_mk, keep_mk, keepL, binV, binC, Value.oneCell', cond_true, cond_false, Nat.reduceEqDiff, ↓reduceIte, reduceCtorEq, Bool.true_and, Bool.not_false, true_and, initF, List.map_cons, List.map_nil, finW_r, resL, resOne, decide_eq_true_eq, decide_eq_false_iff_not, ↓br_tt, ↓br_tf, ↓br_ft, br_t, br_f, mkS_size, mkS_e0, mkS_e46, mkS_e4646]
  refine ⟨fun h0 => ⟨fun h1 => ⟨fun h2 => ⟨fun h3 => by rw [nameA_bad (.inr (.inr (.inr h3)))], fun h3 => ?_⟩, fun h2 => by rw [nameA_bad (.inr (.inr (.inl h2)))]⟩, fun h1 => by rw [nameA_bad (.inr (.inl (by omega)))]⟩, fun h0 => by rw [nameA_bad (.inl h0)]⟩
  refine vc_loop (ι := Nat) (fun i => ⟨[(0, .g (.s (.string (mkS n)))), (3, .g (.s (.int .i64 (i))))], [], [], PH.no⟩) (fun i => i ≤ n.length ∧ ∀ j, j < i → n.getD j 0 ≠ 47) (fun i => n.length - i) 0 (by simp) (ge_of ?_ ?_ rfl rfl rfl) ?_
  · simp [frIn, look]
  · simp [pvIn, look]
  rintro i ⟨hi, hj⟩
  generalize hQ : loopQ _ _ _ _ _ = Q
  simp (maxSteps := 2000000) only [c_ref12_Name_L0, byte47, beq_iff_eq, beq_eq_false_iff_ne, vc_skip, vc_ret, vc_exit, vc_seq, vc_block, vc_rg, vc_ite, thenQ_n, thenQ_r, thenQ_e, blockQ_n, blockQ_r, kKeep_eq, segs_nil, segs_n, ops_nil, ops_cons, vcOp, ev, look, put_mk, keep_mk, keepL, binV, binC, Value.oneCell', cond_true, Nat.reduceEqDiff, ↓reduceIte, reduceCtorEq, Bool.true_and, true_and, Int.toNat_natCast, decide_eq_true_eq, decide_eq_false_iff_not, ne_eq, br_t, mkS_size, mkS_at]
  refine ⟨fun hlt => ⟨by omega, fun h => ?_, fun h => ?_⟩, fun hlt => ?_⟩
  · subst hQ
    simp (maxSteps := 2000000) only [thenQ_r, blockQ_r, loopQ_r, look, ↓reduceIte, finW_r, resL, resOne, ne_eq]
    rw [nameA_slash (i := i) (by omega) h]
  · subst hQ; simp only [loopQ_n]; refine ⟨i + 1, ?_, ?_, ge_of ?_ ?_ rfl rfl rfl⟩
    · refine ⟨by omega, fun j hj2 => ?_⟩
      rcases Nat.lt_succ_iff_lt_or_eq.1 hj2 with h4 | rfl
      · exact hj j h4
      · exact h
    · omega
    · simp only [frIn, look, ↓reduceIte, reduceCtorEq, Bool.and_true, Bool.true_and, true_and, and_true]
      rw [wrap_n (by omega)]
      try simp
    · simp [pvIn, look]
  · subst hQ
    simp (maxSteps := 2000000) only [vc_ret, vc_seq, vc_rg, thenQ_n, blockQ_e, kKeep_eq, loopQ_e, segs_nil, segs_n, ops_nil, ops_cons, vcOp, ev, look, put_mk, keep_mk, keepL, Value.oneCell', cond_true, ↓reduceIte, finW_r, resL, resOne, ne_eq]
    rw [nameA_good h0 (by omega) h2 h3 fun j hjl => hj j (by omega)]

/-! ### A slash ahead -/

/-- The same of a string. -/
def nameB (b : ByteArray) : Bool := nameA b.data.toList
theorem NameB_fn (b : ByteArray) (hb : b.size ≤ 140737488355328) : FnV Try.prog f_tree_Name [.s (.string b)] [.s (.bool (nameB b))] := by
  have := Name_fn b.data.toList (by rw [Array.length_toList]; exact hb)
  rwa [gN, mkS_of] at this
theorem ref_NameB_fn (b : ByteArray) (hb : b.size ≤ 140737488355328) : FnV Try.prog f_ref12_Name [.s (.string b)] [.s (.bool (nameB b))] := by
  have := ref_Name_fn b.data.toList (by rw [Array.length_toList]; exact hb)
  rwa [gN, mkS_of] at this

theorem top_fn (n : Int) : FnV Try.prog f_tree_top [.s (.int .i64 n)] [.s (.bool (n == 1 || n == 2))] := by
  refine spec_fnv k_tree_top (by simp) (by simp [GV.ok, Value.oneCell']) fun w => ?_
  simp (maxSteps := 2000000) only [c_tree_top, vc_ret, vc_seq, vc_rg, thenQ_n, kKeep_eq, segs_nil, segs_n, segs_g, ops_nil, ops_cons, vcOp, RO.isGh, skip_mk, skipL, ev, look, put_mk, keep_mk, keepL, binV, binC, Value.oneCell', cond_true, cond_false, Nat.reduceEqDiff, ↓reduceIte, reduceCtorEq, Bool.true_and, Bool.not_false, true_and, initF, List.map_cons, List.map_nil, finW_r, resL, resOne, ↓br_tt, ↓br_ft, br_f]
  cases (n == 1) <;> simp
def pairB (a b : ByteArray) : Bool := !decide (a = ⟨#[]⟩) && decide (a.size ≤ 255) && decide (b.size ≤ 255)
theorem pair_fn (a b : ByteArray) : FnV Try.prog f_tree_pair [.s (.string a), .s (.string b)] [.s (.bool (pairB a b))] := by
  refine spec_fnv k_tree_pair (by simp) (by simp [GV.ok, Value.oneCell']) fun w => ?_
  simp (maxSteps := 2000000) only [c_tree_pair, vc_ret, vc_seq, vc_rg, thenQ_n, kKeep_eq, segs_nil, segs_n, segs_g, ops_nil, ops_cons, vcOp, RO.isGh, skip_mk, skipL, ev, look, put_mk, keep_mk, keepL, binV, binC, Value.oneCell', cond_true, cond_false, Nat.reduceEqDiff, ↓reduceIte, reduceCtorEq, Nat.zero_add, Bool.true_and, Bool.not_true, true_and, initF, List.map_cons, List.map_nil, finW_r, resL, resOne, decide_eq_true_eq, decide_eq_false_iff_not, ↓br_tt, ↓br_ft, br_t]
  have e : ∀ n : Nat, decide ((n : Int) ≤ 255) = decide (n ≤ 255) := fun n => decide_eq_decide.2 (by omega)
  refine ⟨fun h1 => ⟨fun h2 => ?_, fun h2 => ?_⟩, fun h1 => ?_⟩
  · rw [pairB, h1, decide_eq_true (show a.size ≤ 255 by omega), e]; rfl
  · rw [pairB, h1, decide_eq_false (show ¬ a.size ≤ 255 by omega)]; rfl
  · rw [pairB, h1]; rfl
end Go.Proofs.Ytdpknchgoeboaaa.Vc

/- A tree's functions that only read. -/
set_option linter.unusedVariables false
set_option linter.unusedSimpArgs false
set_option maxRecDepth 100000
namespace Go.Proofs.Ytdpknchgoeboaaa.Vc
open Go Go.Proofs

def topB (n : Int) : Bool := n == 1 || n == 2
def belowA (T : PT) : Nat → Int → Int → Bool
  | 0, _, _ => false
  | f + 1, n, a => if n = a then true else match T.get n with
    | none => false
    | some x => if topB n = true then false else belowA T f x.parent a
def PT.below (T : PT) (n a : Int) : Bool := belowA T (T.nodes.length + 1) n a
def PT.has (T : PT) (n : Int) : Bool := (T.get n).isSome
def mayA (T : PT) (op : Op) : Bool :=
  if op.kind = 1 then decide (op.node > 2) && !T.has op.node && T.has op.parent && nameB op.name
  else if op.kind = 2 then T.has op.node && !topB op.node && T.has op.parent && !T.below op.parent op.node && nameB op.name
  else if op.kind = 3 then T.has op.node && pairB op.key op.value
  else false

abbrev TM (m : PH) (L : Lay) (T : PT) : Prop := TreeM 3 m L T

section
variable {w : World} {u : PH} {L : Lay} {T : PT}
theorem kn_u {N : Nat} (hu : u.le w) {l : List PH} : KN (⟨Try.prog, N, w, PH.no⟩ : Ctx).u0 l u := fun b o h => .inl (by rw [u0_no]; exact hu b o h)

theorem eqTree (b : Nat) : EqG Try.prog 25 (.s (.pointer (some ⟨b, 0, none⟩))) (.s (.pointer none)) false := eqG_ptr Try.underlying25 _
theorem eqNode (b : Nat) : EqG Try.prog 90 (.s (.pointer (some ⟨b, 0, none⟩))) (.s (.pointer none)) false := eqG_ptr Try.underlying90 _
theorem eqNode0 : EqG Try.prog 90 (.s (.pointer none)) (.s (.pointer none)) true := eqG_nilp Try.underlying90
theorem eqNodes (b : Nat) : EqG Try.prog 73 (.s (.map (some b))) (.s (.map none)) false := eqG_map Try.underlying73 b

theorem none_spec (hu : u.le w) (hT : TM u L T) : Spec Try.prog f_tree_Tree_none [ptr (L .t)] PH.no w fun rs _ => rs = [.s (.bool false)] := by
  refine spec_val k_tree_Tree_none (Qf := fun rs => rs = [.s (.bool false)]) [.g (.s (ptr (L .t)))] (by simp) (by simp [AV.ok, GV.ok, Value.oneCell', ptr]) ?_
  have hk : ∀ {l : List PH}, KN (⟨Try.prog, 12, w, PH.no⟩ : Ctx).u0 l u := kn_u hu
  simp (maxSteps := 2000000) only [c_tree_Tree_none, vc_seq, vc_rg, thenQ_n, kKeep_eq, segs_nil, segs_n, ops_nil, ops_cons, vcOp, ev, look, put_mk, keep_mk, keepL, Value.oneCell', cond_true, ↓reduceIte, reduceCtorEq, initF, initP, ptr]
  refine eq_of (eqTree _) ?_
  simp (maxSteps := 2000000) only [segs_g, ops_nil, ops_cons, vcOp, ev, look, put_mk, ↓reduceIte, reduceCtorEq, Nat.add_zero, ↓br_ff, Bool.bne_false]
  refine ld_of _ (hT.s_map hk) rfl ?_
  simp (maxSteps := 2000000) only [ops_cons, vcOp, ev, look, put_mk, Value.oneCell', cond_true, ↓reduceIte]
  refine eq_of (eqNodes _) ?_
  simp (maxSteps := 2000000) only [vc_ret, thenQ_n, kKeep_eq, segs_nil, segs_n, ops_nil, ops_cons, vcOp, ev, look, put_mk, keep_mk, keepL, Value.oneCell', cond_true, Nat.reduceEqDiff, ↓reduceIte, finW_r, resL, resOne, ↓br_ft, Bool.bne_false]

theorem Len_spec (hu : u.le w) (hT : TM u L T) : Spec Try.prog f_tree_Tree_Len [ptr (L .t)] PH.no w fun rs _ => rs = [.s (.int .i64 T.nodes.length)] := by
  refine spec_val k_tree_Tree_Len (Qf := fun rs => rs = [.s (.int .i64 T.nodes.length)]) [.g (.s (ptr (L .t)))] (by simp) (by simp [AV.ok, GV.ok, Value.oneCell', ptr]) ?_
  have hk : ∀ {l : List PH}, KN (⟨Try.prog, 10, w, PH.no⟩ : Ctx).u0 l u := kn_u hu
  simp (maxSteps := 2000000) only [c_tree_Tree_Len, vc_seq, vc_rg, thenQ_n, kKeep_eq, segs_nil, segs_n, ops_nil, ops_cons, vcOp, ev, look, put_mk, keep_mk, keepL, Value.oneCell', cond_true, ↓reduceIte, reduceCtorEq, initF, initP, ptr]
  refine call_is _ [.s (.bool false)] rfl rfl (fun w' vs hv hw => ?_) ?_
  · obtain ⟨vs, rfl, _, hv⟩ := argsV_g hv
    obtain rfl := argsV_nil hv
    intro _
    exact none_spec (fun b o h => hw b o (by rw [u0_no]; exact hu b o h)) hT
  simp (maxSteps := 2000000) only [retS, vc_skip, vc_seq, vc_rg, vc_ite, thenQ_n, kKeep_eq, segs_nil, segs_n, ops_nil, ops_cons, vcOp, ev, look, put_mk, keep_mk, keepL, ↓reduceIte, reduceCtorEq, Nat.add_zero, ↓br_ft]
  refine ld_of _ (hT.s_map hk) rfl ?_
  simp (maxSteps := 2000000) only [ops_cons, vcOp, ev, look, put_mk, ↓reduceIte]
  refine hT.len hk ?_
  simp (maxSteps := 2000000) only [vc_ret, thenQ_n, kKeep_eq, segs_nil, ops_nil, ops_cons, vcOp, ev, look, put_mk, keep_mk, keepL, ↓reduceIte, finW_r, resL, resOne]

theorem below_spec (hu : u.le w) (hT : TM u L T) (n a : Int) (hl : T.nodes.length < 9223372036854775800) : Spec Try.prog f_tree_Tree_below [ptr (L .t), .int .i64 n, .int .i64 a] PH.no w fun rs _ => rs = [.s (.bool (T.below n a))] := by
  refine spec_val k_tree_Tree_below (Qf := fun rs => rs = [.s (.bool (T.below n a))]) [.g (.s (ptr (L .t))), .g (.s (.int .i64 n)), .g (.s (.int .i64 a))] (by simp) (by simp [AV.ok, GV.ok, Value.oneCell', ptr]) ?_
  have hk : ∀ {l : List PH}, KN (⟨Try.prog, 37, w, PH.no⟩ : Ctx).u0 l u := kn_u hu
  simp (maxSteps := 2000000) only [c_tree_Tree_below, vc_seq, vc_rg, thenQ_n, kKeep_eq, segs_nil, segs_n, ops_nil, ops_cons, vcOp, ev, look, put_mk, keep_mk, keepL, Value.oneCell', cond_true, Nat.reduceEqDiff, Nat.reduceAdd, ↓reduceIte, reduceCtorEq, Nat.zero_add, Nat.add_zero, initF, initP, Int.reduceAdd, ptr]
  refine ld_of _ (hT.s_map hk) rfl ?_
  simp (maxSteps := 2000000) only [ops_cons, vcOp, ev, look, put_mk, ↓reduceIte]
  refine hT.len hk ?_
  simp (maxSteps := 2000000) only [vc_block, thenQ_n, kKeep_eq, segs_nil, ops_nil, ops_cons, vcOp, ev, look, put_mk, keep_mk, keepL, binV, binC, Value.oneCell', cond_true, Nat.reduceEqDiff, ↓reduceIte, reduceCtorEq, Bool.true_and, true_and]
  rw [wrap_n (by omega)]
  refine vc_loop (ι := Nat × Int) (fun q => ⟨[(0, .g (.s (ptr (L .t)))), (1, .g (.s (.int .i64 (q.2)))), (2, .g (.s (.int .i64 (a)))), (13, .g (.s (.int .i64 ((T.nodes.length + 1 : Nat))))), (14, .g (.s (.int .i64 (q.1))))], [], [], PH.no⟩) (fun q => q.1 ≤ T.nodes.length + 1 ∧ T.below n a = belowA T (T.nodes.length + 1 - q.1) q.2 a) (fun q => T.nodes.length + 1 - q.1) (0, n) ⟨by simp, rfl⟩ (ge_of ?_ ?_ rfl rfl rfl) ?_
  · simp [frIn, look, ptr]
  · simp [pvIn, look]
  rintro ⟨i, x⟩ ⟨hi, hb⟩
  simp only at hi hb
  generalize hQ : loopQ _ _ _ _ _ = Q
  simp (maxSteps := 2000000) only [c_tree_Tree_below_L0, vc_skip, vc_ret, vc_exit, vc_seq, vc_block, vc_rg, vc_ite, thenQ_n, thenQ_r, thenQ_e, blockQ_r, kKeep_eq, segs_nil, segs_n, ops_nil, ops_cons, vcOp, ev, look, put_mk, keep_mk, keepL, binV, binC, Value.oneCell', cond_true, Nat.reduceEqDiff, ↓reduceIte, reduceCtorEq, Nat.add_zero, Bool.true_and, true_and, decide_eq_true_eq, decide_eq_false_iff_not, br_t, ptr]
  refine ⟨fun hlt => ?_, fun hge => ?_⟩
  · obtain ⟨f, hf⟩ : ∃ f, T.nodes.length + 1 - i = f + 1 := ⟨T.nodes.length - i, by omega⟩
    rw [hf] at hb
    refine ⟨fun he => ?_, fun hne => ?_⟩
    · rw [beq_iff_eq] at he
      rw [belowA, if_pos he] at hb
      subst hQ
      simp (maxSteps := 2000000) only [thenQ_r, blockQ_r, loopQ_r, look, ↓reduceIte, finW_r, resL, resOne, ptr]
      rw [hb]
    · rw [beq_eq_false_iff_ne] at hne
      rw [belowA, if_neg hne] at hb
      refine ld_of _ (hT.s_map hk) rfl ?_
      simp (maxSteps := 2000000) only [ops_cons, vcOp, ev, look, put_mk, Nat.reduceEqDiff, ↓reduceIte, reduceCtorEq]
      refine hT.lk hk x ?_
      cases hg : T.get x with
      | none =>
        rw [hg] at hb
        simp (maxSteps := 2000000) only [vc_seq, vc_rg, thenQ_n, kKeep_eq, segs_nil, segs_n, ops_nil, ops_cons, vcOp, ev, look, put_mk, keep_mk, keepL, Value.oneCell', cond_true, Nat.reduceEqDiff, ↓reduceIte, reduceCtorEq, nptr_none]
        refine eq_of (eqNode0) ?_
        simp (maxSteps := 2000000) only [vc_ret, vc_seq, vc_rg, vc_ite, thenQ_n, thenQ_r, blockQ_r, kKeep_eq, segs_nil, segs_n, segs_g, ops_nil, ops_cons, vcOp, RO.isGh, skip_mk, skipL, ev, look, put_mk, keep_mk, keepL, Value.oneCell', cond_true, cond_false, Nat.reduceEqDiff, ↓reduceIte, reduceCtorEq, Bool.not_false, ↓br_tt, ↓br_tf, Bool.bne_false]
        subst hQ
        simp (maxSteps := 2000000) only [thenQ_r, blockQ_r, loopQ_r, look, ↓reduceIte, finW_r, resL, resOne, ptr]
        rw [hb]
      | some y =>
        rw [hg] at hb
        simp only at hb
        simp (maxSteps := 2000000) only [vc_seq, vc_rg, thenQ_n, kKeep_eq, segs_nil, segs_n, ops_nil, ops_cons, vcOp, ev, look, put_mk, keep_mk, keepL, Value.oneCell', cond_true, Nat.reduceEqDiff, ↓reduceIte, reduceCtorEq, nptr_some]
        refine eq_of (eqNode _) ?_
        simp (maxSteps := 2000000) only [segs_g, ops_nil, ops_cons, vcOp, ev, look, put_mk, Nat.reduceEqDiff, ↓reduceIte, reduceCtorEq, ↓br_ff, Bool.bne_false]
        refine call_fnv (top_fn x) rfl rfl rfl fun _ => ?_
        simp (maxSteps := 2000000) only [retS, vc_skip, vc_ret, vc_seq, vc_rg, vc_ite, thenQ_n, thenQ_r, blockQ_r, kKeep_eq, segs_nil, segs_n, ops_nil, ops_cons, vcOp, ev, look, put_mk, keep_mk, keepL, Value.oneCell', cond_true, Nat.reduceEqDiff, ↓reduceIte, reduceCtorEq, Nat.add_zero, ↓br_ft, br_t]
        refine ⟨fun ht => ?_, fun ht => ?_⟩
        · subst hQ
          simp (maxSteps := 2000000) only [thenQ_r, blockQ_r, loopQ_r, look, ↓reduceIte, finW_r, resL, resOne, ptr]
          rw [hb, if_pos (by simpa [topB] using ht)]
        · refine ld_of _ (hT.s_node hk hg).1 rfl ?_
          simp (maxSteps := 2000000) only [vc_rg, thenQ_n, blockQ_n, kKeep_eq, segs_nil, segs_n, ops_nil, ops_cons, vcOp, ev, look, put_mk, keep_mk, keepL, binV, binC, Value.oneCell', cond_true, Nat.reduceEqDiff, ↓reduceIte, reduceCtorEq, Bool.true_and, true_and]
          subst hQ; simp only [loopQ_n]; refine ⟨(i + 1, y.parent), ?_, ?_, ge_of ?_ ?_ rfl rfl rfl⟩
          · refine ⟨by simp only; omega, ?_⟩
            rw [hb, if_neg (by rw [topB, ht]; simp)]
            simp only
            rw [show T.nodes.length + 1 - (i + 1) = f by omega]
          · simp only; omega
          · simp only [frIn, look, Nat.reduceEqDiff, ↓reduceIte, reduceCtorEq, Bool.and_true, Bool.true_and, true_and, and_true, ptr]
            rw [wrap_n (by omega)]
            try simp
          · simp [pvIn, look]
  · subst hQ
    simp (maxSteps := 2000000) only [vc_ret, vc_seq, vc_rg, thenQ_n, blockQ_e, kKeep_eq, loopQ_e, segs_nil, segs_n, ops_nil, ops_cons, vcOp, ev, look, put_mk, keep_mk, keepL, Value.oneCell', cond_true, ↓reduceIte, finW_r, resL, resOne, ptr]
    rw [hb, show T.nodes.length + 1 - i = 0 by omega]; rfl

theorem May_spec (hu : u.le w) (hT : TM u L T) (op : Op) (hl : T.nodes.length < 9223372036854775800) (hb : op.name.size ≤ 140737488355328) : Spec Try.prog f_tree_Tree_May [ptr (L .t), (gOp op).val] PH.no w fun rs _ => rs = [.s (.bool (mayA T op))] := by
  refine spec_val k_tree_Tree_May (Qf := fun rs => rs = [.s (.bool (mayA T op))]) [.g (.s (ptr (L .t))), .g (gOp op)] (by simp) (by simp [AV.ok, GV.ok, Value.oneCell', ptr, gOp_ok]) ?_
  have hk : ∀ {l : List PH}, KN (⟨Try.prog, 80, w, PH.no⟩ : Ctx).u0 l u := kn_u hu
  have hw' : ∀ {w' : World}, (⟨Try.prog, 80, w, PH.no⟩ : Ctx).u0.le w' → u.le w' := fun hw b o h => hw b o (by rw [u0_no]; exact hu b o h)
  simp (maxSteps := 2000000) only [c_tree_Tree_May, vc_seq, vc_rg, thenQ_n, kKeep_eq, segs_nil, segs_n, ops_nil, ops_cons, vcOp, ev, look, updL, put_mk, keep_mk, keepL, Value.oneCell', cond_true, Nat.reduceEqDiff, ↓reduceIte, reduceCtorEq, Nat.zero_add, Bool.true_and, true_and, initF, initP, ptr]
  refine call_is _ [.s (.bool false)] rfl rfl (fun w' vs hv hw => ?_) ?_
  · obtain ⟨vs, rfl, _, hv⟩ := argsV_g hv
    obtain rfl := argsV_nil hv
    intro _
    exact none_spec (hw' hw) hT
  simp (maxSteps := 2000000) only [retS, vc_skip, vc_seq, vc_rgq, vc_ite, thenQ_n, kKeep_eq, segs_nil, ops_nil, qsegs_n, qops_cons, vcqOp, vcOp, isRd, ev, look, put_mk, keep_mk, keepL, Nat.reduceEqDiff, ↓reduceIte, reduceCtorEq, Nat.add_zero, Bool.true_and, true_and, ↓br_ft]
  refine ld_of _ (hT.s_map hk) rfl ?_
  simp (maxSteps := 2000000) only [qops_cons, vcqOp, vcOp, isRd, ev, look, put_mk, GV.getT, Nat.reduceEqDiff, ↓reduceIte, reduceCtorEq, List.nil_append, Bool.true_and, Bool.not_false, true_and, getT_nil, fits_s, gOp_fld2, gOp_get2]
  refine hT.lk hk _ ?_
  simp (maxSteps := 2000000) only [qops_cons, vcqOp, vcOp, isRd, ev, look, put_mk, Value.oneCell', cond_true, ↓reduceIte, Bool.true_and, true_and]
  refine eqN_of Try.underlying90 ?_
  simp (maxSteps := 2000000) only [qops_cons, vcqOp, vcOp, isRd, ev, look, put_mk, ↓reduceIte, reduceCtorEq, Nat.add_zero, Bool.true_and, true_and, Bool.bne_true]
  refine ld_of _ (hT.s_map hk) rfl ?_
  simp (maxSteps := 2000000) only [qops_cons, vcqOp, vcOp, isRd, ev, look, put_mk, GV.getT, Nat.reduceEqDiff, ↓reduceIte, reduceCtorEq, List.nil_append, Bool.true_and, Bool.not_false, true_and, getT_nil, fits_s, gOp_fld3, gOp_get3]
  refine hT.lk hk _ ?_
  simp (maxSteps := 2000000) only [qops_cons, vcqOp, vcOp, isRd, ev, look, put_mk, Value.oneCell', cond_true, ↓reduceIte, Bool.true_and, true_and]
  refine eqN_of Try.underlying90 ?_
  simp (maxSteps := 2000000) only [vc_skip, vc_ret, vc_seq, vc_block, vc_rg, vc_ite, thenQ_n, thenQ_r, blockQ_n, blockQ_r, kKeep_eq, segs_nil, segs_n, segs_g, ops_nil, ops_cons, qsegs_nil, qops_nil, qops_cons, vcqOp, vcOp, isRd, RO.isGh, skip_mk, skipL, ev, look, put_mk, keep_mk, keepL, binV, binC, unV, GV.getT, Value.oneCell', cond_true, cond_false, Nat.reduceEqDiff, ↓reduceIte, reduceCtorEq, List.nil_append, Bool.true_and, Bool.not_true, Bool.not_false, true_and, finW_r, resL, resOne, decide_eq_true_eq, decide_eq_false_iff_not, ↓br_tt, ↓br_ft, br_t, Bool.bne_true, getT_nil, fits_s, gOp_fld1, gOp_get1, gOp_fld2, gOp_get2, gOp_fld4, gOp_get4, gOp_fld5, gOp_get5, gOp_fld6, gOp_get6]
  have hN : ∀ {o : Option PN}, (!!o.isNone) = !o.isSome := fun {o} => by cases o <;> rfl
  have hS : ∀ {o : Option PN}, (!o.isNone) = o.isSome := fun {o} => by cases o <;> rfl
  rw [hN, hS, hS]
  change (_ → _) ∧ (_ → _)
  refine ⟨fun k1 => ?_, fun k1 => ⟨fun k2 => ?_, fun k2 => ⟨fun k3 => ?_, fun k3 => ?_⟩⟩⟩
  · rw [beq_iff_eq] at k1
    have e : mayA T op = (decide (op.node > 2) && !T.has op.node && T.has op.parent && nameB op.name) := by rw [mayA, if_pos k1]
    rw [e, PT.has, PT.has]
    refine ⟨fun a1 => ⟨fun a2 => ⟨fun a3 => ?_, fun a3 => ?_⟩, fun a2 => ?_⟩, fun a1 => ?_⟩
    · refine call_fnv (NameB_fn op.name hb) rfl rfl rfl fun _ => ?_
      simp (maxSteps := 2000000) only [retS, vc_ret, thenQ_n, thenQ_r, blockQ_r, kKeep_eq, segs_nil, segs_n, ops_nil, ops_cons, vcOp, ev, look, put_mk, keep_mk, keepL, Value.oneCell', cond_true, Nat.reduceEqDiff, ↓reduceIte, finW_r, resL, resOne, ↓br_tt]
      rw [decide_eq_true a1, a2, a3]; rfl
    · rw [a3, Bool.and_false]; rfl
    · rw [a2, Bool.and_false]; rfl
    · rw [decide_eq_false a1]; rfl
  · rw [beq_eq_false_iff_ne] at k1
    rw [beq_iff_eq] at k2
    have e : mayA T op = (T.has op.node && !topB op.node && T.has op.parent && !T.below op.parent op.node && nameB op.name) := by rw [mayA, if_neg k1, if_pos k2]
    rw [e, PT.has, PT.has]
    refine ⟨fun a1 => ?_, fun a1 => by rw [a1]; rfl⟩
    refine call_fnv (top_fn op.node) rfl rfl rfl fun _ => ?_
    simp (maxSteps := 2000000) only [retS, vc_ret, thenQ_n, thenQ_r, blockQ_r, kKeep_eq, segs_nil, segs_n, segs_g, ops_nil, ops_cons, vcOp, RO.isGh, skip_mk, skipL, ev, look, put_mk, keep_mk, keepL, unV, GV.getT, Value.oneCell', cond_true, cond_false, Nat.reduceEqDiff, ↓reduceIte, reduceCtorEq, List.nil_append, Bool.true_and, Bool.not_true, Bool.not_false, true_and, finW_r, resL, resOne, ↓br_tt, ↓br_ft, br_t, getT_nil, fits_s, gOp_fld2, gOp_get2, gOp_fld3, gOp_get3]
    rw [a1, ← topB]
    refine ⟨fun a2 => ⟨fun a3 => ?_, fun a3 => by rw [a3, Bool.and_false]; rfl⟩, fun a2 => by rw [a2]; rfl⟩
    refine call_is _ [.s (.bool (T.below op.parent op.node))] rfl rfl (fun w' vs hv hw => ?_) ?_
    · obtain ⟨vs, rfl, _, hv⟩ := argsV_g hv
      obtain ⟨vs, rfl, _, hv⟩ := argsV_g hv
      obtain ⟨vs, rfl, _, hv⟩ := argsV_g hv
      obtain rfl := argsV_nil hv
      intro _
      exact below_spec (hw' hw) hT _ _ hl
    simp (maxSteps := 2000000) only [retS, vc_ret, thenQ_n, thenQ_r, blockQ_r, kKeep_eq, segs_nil, segs_n, segs_g, ops_nil, ops_cons, vcOp, RO.isGh, skip_mk, skipL, ev, look, put_mk, keep_mk, keepL, unV, GV.getT, Value.oneCell', cond_true, cond_false, Nat.reduceEqDiff, ↓reduceIte, reduceCtorEq, List.nil_append, Bool.true_and, Bool.not_true, Bool.not_false, true_and, finW_r, resL, resOne, ↓br_tt, ↓br_ft, br_t, getT_nil, fits_s, gOp_fld4, gOp_get4]
    rw [a2, a3]
    refine ⟨fun a4 => ?_, fun a4 => by rw [a4]; rfl⟩
    refine call_fnv (NameB_fn op.name hb) rfl rfl rfl fun _ => ?_
    simp (maxSteps := 2000000) only [retS, vc_ret, thenQ_n, thenQ_r, blockQ_r, kKeep_eq, segs_nil, segs_n, ops_nil, ops_cons, vcOp, ev, look, put_mk, keep_mk, keepL, Value.oneCell', cond_true, Nat.reduceEqDiff, ↓reduceIte, Bool.and_true, Bool.true_and, true_and, and_true, finW_r, resL, resOne, ↓br_tt]
    rw [a4]; rfl
  · rw [beq_eq_false_iff_ne] at k1 k2
    rw [beq_iff_eq] at k3
    have e : mayA T op = (T.has op.node && pairB op.key op.value) := by rw [mayA, if_neg k1, if_neg k2, if_pos k3]
    rw [e, PT.has]
    refine ⟨fun a1 => ?_, fun a1 => by rw [a1]; rfl⟩
    refine call_fnv (pair_fn op.key op.value) rfl rfl rfl fun _ => ?_
    simp (maxSteps := 2000000) only [retS, vc_ret, thenQ_n, thenQ_r, blockQ_r, kKeep_eq, segs_nil, segs_n, ops_nil, ops_cons, vcOp, ev, look, put_mk, keep_mk, keepL, Value.oneCell', cond_true, Nat.reduceEqDiff, ↓reduceIte, finW_r, resL, resOne, ↓br_tt]
    rw [a1]; rfl
  · rw [beq_eq_false_iff_ne] at k1 k2 k3
    rw [mayA, if_neg k1, if_neg k2, if_neg k3]
end
end Go.Proofs.Ytdpknchgoeboaaa.Vc

/- A tree begun; a node put to it. -/
set_option linter.unusedVariables false
set_option linter.unusedSimpArgs false
namespace Go.Proofs.Ytdpknchgoeboaaa.Vc
open Go

/-- A node that nothing is known of. -/
structure BareM (m : PH) (b a k : Nat) : Prop where
  ba : b ≠ a
  bk : b ≠ k
  ak : a ≠ k
  node : ∃ e, m b = some (.cells #[.int .i64 0, .string ⟨#[]⟩, .map (some a), .map (some k)] e (0, 0))
  attrs : ∃ o, m a = some o ∧ MapI none o []
  kids : ∃ o, m k = some o ∧ MapI (some .i64) o []

def Lay.add (L : Lay) (n : Int) (b a k : Nat) : Lay
  | .nd j => if j = n then b else L (.nd j)
  | .ab j => if j = n then a else L (.ab j)
  | .kb j => if j = n then k else L (.kb j)
  | r => L r
def PT.add (T : PT) (n : Int) : PT := { T with nodes := T.nodes ++ [(n, PN.bare)] }
theorem PT.get_add {T : PT} {n : Int} (h : T.get n = none) (j : Int) : (T.add n).get j = if j = n then some PN.bare else T.get j := by
  unfold PT.add PT.get at *
  simp only [getA_app]
  by_cases hj : j = n
  · subst hj; rw [h]; simp [getA]
  · rw [if_neg hj]
    cases getA T.nodes j with
    | none => simp [getA, Ne.symm hj]
    | some x => rfl

theorem TreeT.add {R : Role → Prop} {m mb : PH} {L : Lay} {T : PT} {idsV : Value} {n : Int} {b a k : Nat} {o' : Obj} (h : TreeT R m L T idsV) (hR : R .nb) (hb : BareM mb b a k) (hd : dis mb m) (hn : T.get n = none)
    (ho : MapI (some .i64) o' (mput (rawN L T.nodes) (.int .i64 n) (ptr b))) : TreeT R ((uni mb m).upd (L .nb) o') (L.add n b a k) (T.add n) idsV := by
  obtain ⟨onb, hnb, _⟩ := h.has .nb hR trivial
  have hmb : ∀ {j : Nat} {o : Obj}, m j = some o → mb j = none := fun {j o} hj => by
    rcases hd j with e | e
    · exact e
    · rw [e] at hj; cases hj
  have hold : ∀ r, R r → act T r → ∃ o, m (L r) = some o := fun r h1 h2 => by
    obtain ⟨o, h3, _⟩ := h.has r h1 h2
    exact ⟨o, h3⟩
  obtain ⟨e1, q1⟩ := hb.node
  obtain ⟨oa, q2, q2'⟩ := hb.attrs
  obtain ⟨ok, q3, q3'⟩ := hb.kids
  have hne : ∀ {j : Nat} {o : Obj}, mb j = some o → ∀ r, R r → act T r → L r ≠ j := fun {j o} hj r h1 h2 e => by
    obtain ⟨o2, h3⟩ := hold r h1 h2
    rw [e] at h3
    rw [hmb h3] at hj; cases hj
  have new : ∀ {j : Nat} {o : Obj}, mb j = some o → ((uni mb m).upd (L .nb) o') j = some o := fun {j o} hj => by
    rw [upd_ne (fun e => hne hj .nb hR trivial e.symm)]
    simp [uni, hj]
  have old : ∀ r, R r → act T r → r ≠ .nb → ∀ o, m (L r) = some o → ((uni mb m).upd (L .nb) o') (L r) = some o := fun r h1 h2 h3 o hj => by
    rw [upd_ne (fun e => h3 (h.sep r .nb h1 hR h2 trivial e))]
    simp [uni, hmb hj, hj]
  have hg := PT.get_add hn
  have hkey : n ∉ T.nodes.map (·.1) := getA_none.1 hn
  refine ⟨fun r hr ha => ?_, fun r s hr hs ha hb' => ?_, ?_⟩
  · cases r with
    | t =>
      obtain ⟨o, h1, h2⟩ := h.has .t hr trivial
      exact ⟨o, old .t hr trivial (by simp) o h1, h2⟩
    | nb =>
      refine ⟨o', upd_self _ _ _, ?_⟩
      show MapI (some .i64) o' (rawN (L.add n b a k) (T.nodes ++ [(n, PN.bare)]))
      rw [mput_rawN _ _ _ _ hn] at ho
      have e : rawN (L.add n b a k) (T.nodes ++ [(n, PN.bare)]) = rawN L T.nodes ++ [(.int .i64 n, ptr b)] := by
        have e1 : rawN (L.add n b a k) T.nodes = rawN L T.nodes := rawN_lay fun j x hj => by
          have : j ≠ n := fun e => hkey (List.mem_map.2 ⟨(j, x), hj, e⟩)
          simp [Lay.add, this]
        have e2 : ∀ (l r : List (Int × PN)) (M : Lay), rawN M (l ++ r) = rawN M l ++ rawN M r := fun l r M => by simp [rawN]
        rw [e2, e1]
        simp [rawN, Lay.add]
      rw [e]; exact ho
    | mk =>
      obtain ⟨o, h1, h2⟩ := h.has .mk hr trivial
      exact ⟨o, old .mk hr trivial (by simp) o h1, trivial⟩
    | nd j =>
      by_cases hj : j = n
      · subst hj
        refine ⟨_, by show ((uni mb m).upd (L .nb) o') (if j = j then b else _) = _; rw [if_pos rfl]; exact new q1, fun x hx => ?_⟩
        rw [hg, if_pos rfl] at hx
        cases hx
        exact ⟨e1, by simp [PN.bare, Lay.add]⟩
      · have ha' : act T (.nd j) := by obtain ⟨x, hx⟩ := ha; rw [hg, if_neg hj] at hx; exact ⟨x, hx⟩
        obtain ⟨o, h1, h2⟩ := h.has _ hr ha'
        refine ⟨o, by show ((uni mb m).upd (L .nb) o') (if j = n then b else _) = _; rw [if_neg hj]; exact old _ hr ha' (by simp) o h1, fun x hx => ?_⟩
        rw [hg, if_neg hj] at hx
        obtain ⟨e', he'⟩ := h2 x hx
        exact ⟨e', by rw [he']; simp [Lay.add, hj]⟩
    | ab j =>
      by_cases hj : j = n
      · subst hj
        refine ⟨_, by show ((uni mb m).upd (L .nb) o') (if j = j then a else _) = _; rw [if_pos rfl]; exact new q2, fun x hx => ?_⟩
        rw [hg, if_pos rfl] at hx
        cases hx
        exact q2'
      · have ha' : act T (.ab j) := by obtain ⟨x, hx⟩ := ha; rw [hg, if_neg hj] at hx; exact ⟨x, hx⟩
        obtain ⟨o, h1, h2⟩ := h.has _ hr ha'
        refine ⟨o, by show ((uni mb m).upd (L .nb) o') (if j = n then a else _) = _; rw [if_neg hj]; exact old _ hr ha' (by simp) o h1, fun x hx => ?_⟩
        rw [hg, if_neg hj] at hx
        exact h2 x hx
    | kb j =>
      by_cases hj : j = n
      · subst hj
        refine ⟨_, by show ((uni mb m).upd (L .nb) o') (if j = j then k else _) = _; rw [if_pos rfl]; exact new q3, fun x hx => ?_⟩
        rw [hg, if_pos rfl] at hx
        cases hx
        exact q3'
      · have ha' : act T (.kb j) := by obtain ⟨x, hx⟩ := ha; rw [hg, if_neg hj] at hx; exact ⟨x, hx⟩
        obtain ⟨o, h1, h2⟩ := h.has _ hr ha'
        refine ⟨o, by show ((uni mb m).upd (L .nb) o') (if j = n then k else _) = _; rw [if_neg hj]; exact old _ hr ha' (by simp) o h1, fun x hx => ?_⟩
        rw [hg, if_neg hj] at hx
        exact h2 x hx
  · -- each place is one role's
    intro e
    have cls : ∀ r, R r → act (T.add n) r → (r = .nd n ∧ (L.add n b a k) r = b) ∨ (r = .ab n ∧ (L.add n b a k) r = a) ∨ (r = .kb n ∧ (L.add n b a k) r = k) ∨ (act T r ∧ (L.add n b a k) r = L r) := by
      intro r hr ha
      cases r with
      | nd j =>
        by_cases hj : j = n
        · subst hj; exact .inl ⟨rfl, by simp [Lay.add]⟩
        · obtain ⟨x, hx⟩ := ha; rw [hg, if_neg hj] at hx
          exact .inr (.inr (.inr ⟨⟨x, hx⟩, by simp [Lay.add, hj]⟩))
      | ab j =>
        by_cases hj : j = n
        · subst hj; exact .inr (.inl ⟨rfl, by simp [Lay.add]⟩)
        · obtain ⟨x, hx⟩ := ha; rw [hg, if_neg hj] at hx
          exact .inr (.inr (.inr ⟨⟨x, hx⟩, by simp [Lay.add, hj]⟩))
      | kb j =>
        by_cases hj : j = n
        · subst hj; exact .inr (.inr (.inl ⟨rfl, by simp [Lay.add]⟩))
        · obtain ⟨x, hx⟩ := ha; rw [hg, if_neg hj] at hx
          exact .inr (.inr (.inr ⟨⟨x, hx⟩, by simp [Lay.add, hj]⟩))
      | t => exact .inr (.inr (.inr ⟨trivial, rfl⟩))
      | nb => exact .inr (.inr (.inr ⟨trivial, rfl⟩))
      | mk => exact .inr (.inr (.inr ⟨trivial, rfl⟩))
    rcases cls r hr ha with ⟨h1, h2⟩ | ⟨h1, h2⟩ | ⟨h1, h2⟩ | ⟨h1, h2⟩ <;> rcases cls s hs hb' with ⟨g1, g2⟩ | ⟨g1, g2⟩ | ⟨g1, g2⟩ | ⟨g1, g2⟩ <;> rw [h2, g2] at e
    · rw [h1, g1]
    · exact absurd e hb.ba
    · exact absurd e hb.bk
    · exact absurd e.symm (hne q1 s hs g1)
    · exact absurd e.symm hb.ba
    · rw [h1, g1]
    · exact absurd e hb.ak
    · exact absurd e.symm (hne q2 s hs g1)
    · exact absurd e.symm hb.bk
    · exact absurd e.symm hb.ak
    · rw [h1, g1]
    · exact absurd e.symm (hne q3 s hs g1)
    · exact absurd e (hne q1 r hr h1)
    · exact absurd e (hne q2 r hr h1)
    · exact absurd e (hne q3 r hr h1)
    · exact h.sep r s hr hs h1 g1 e
  · show ((T.nodes ++ [(n, PN.bare)]).map (·.1)).Nodup
    rw [List.map_append, List.nodup_append]
    refine ⟨h.nod, by simp, fun x hx y hy => ?_⟩
    simp only [List.map_cons, List.map_nil, List.mem_singleton] at hy
    subst hy
    exact fun e => hkey (e ▸ hx)

theorem TreeM.add {e : TypeId} {m mb : PH} {L : Lay} {T : PT} {n : Int} {b a k : Nat} {o' : Obj} (h : TreeM e m L T) (hb : BareM mb b a k) (hd : dis mb m) (hn : T.get n = none)
    (ho : MapI (some .i64) o' (mput (rawN L T.nodes) (.int .i64 n) (ptr b))) : TreeM e ((uni mb m).upd (L .nb) o') (L.add n b a k) (T.add n) := by
  obtain ⟨mi, mt, idsV, rfl, hdi, hi, ht⟩ := h
  obtain ⟨hd1, hd2⟩ := dis_of_uni_r hd
  obtain ⟨onb, hnb, _⟩ := ht.has .nb trivial trivial
  have hn' : mi (L .nb) = none := (uni_r hdi hnb).2
  have e1 : uni mb (uni mi mt) = uni mi (uni mb mt) := by rw [← uni_assoc, uni_comm hd1, uni_assoc]
  have hdis : dis mi (uni mb mt) := dis_uni_r (dis_comm hd1) hdi
  exact ⟨mi, (uni mb mt).upd (L .nb) o', idsV, by rw [e1, uni_upd hn'], dis_upd hdis hn', hi, ht.add trivial hb hd2 hn ho⟩

/-- No nodes. -/
def PT.empty : PT := ⟨[], [], 0⟩
def part (r : Role) : Prop := r ≠ .t ∧ r ≠ .mk
theorem TreeT.none {nb : Nat} {o : Obj} (ho : MapI (some .i64) o []) : TreeT part (one nb o) (fun _ => nb) PT.empty (.slice none 0 0) := by
  refine ⟨fun r hr ha => ?_, fun r s hr hs ha hb e => ?_, by simp [PT.empty]⟩
  · cases r with
    | t => exact absurd rfl hr.1
    | mk => exact absurd rfl hr.2
    | nb => exact ⟨o, by simp [one], ho⟩
    | nd k => obtain ⟨x, hx⟩ := ha; cases hx
    | ab k => obtain ⟨x, hx⟩ := ha; cases hx
    | kb k => obtain ⟨x, hx⟩ := ha; cases hx
  · have h1 : ∀ r, part r → act PT.empty r → r = .nb := fun r hr ha => by
      cases r with
      | t => exact absurd rfl hr.1
      | mk => exact absurd rfl hr.2
      | nb => rfl
      | nd k => obtain ⟨x, hx⟩ := ha; cases hx
      | ab k => obtain ⟨x, hx⟩ := ha; cases hx
      | kb k => obtain ⟨x, hx⟩ := ha; cases hx
    rw [h1 r hr ha, h1 s hs hb]
def Lay.top (L : Lay) (t k : Nat) : Lay
  | .t => t
  | .mk => k
  | r => L r
/-- The whole of it. -/
theorem TreeM.make {ei et : TypeId} {m : PH} {L : Lay} {l : List (Int × PN)} {t k : Nat} {om : Obj} (h : TreeT part m L ⟨l, [], 0⟩ (.slice none 0 0)) (hd1 : dis (one k om) m)
    (hd2 : dis (one t (.cells #[.map (some (L .nb)), ptr k, .int .i64 0, .slice none 0 0, .int .i64 0] et (0, 0))) (uni (one k om) m)) :
    TreeM ei (uni (one t (.cells #[.map (some (L .nb)), ptr k, .int .i64 0, .slice none 0 0, .int .i64 0] et (0, 0))) (uni (one k om) m)) (L.top t k) ⟨l, [], 0⟩ := by
  refine ⟨PH.no, _, .slice none 0 0, (uni_no _).symm, dis_no _, ⟨fun x hx => by simp at hx, .inl ⟨rfl, rfl⟩⟩, ?_⟩
  generalize hot : Obj.cells #[.map (some (L .nb)), ptr k, .int .i64 0, .slice none 0 0, .int .i64 0] et (0, 0) = ot at hd2 ⊢
  have hk : ∀ {j : Nat} {o : Obj}, m j = some o → j ≠ k ∧ j ≠ t := fun {j o} hj => by
    refine ⟨fun e => ?_, fun e => ?_⟩
    · subst e; rcases hd1 j with q | q
      · simp [one] at q
      · rw [q] at hj; cases hj
    · subst e; rcases hd2 j with q | q
      · simp [one] at q
      · have : uni (one k om) m j ≠ none := by
          unfold uni
          cases one k om j with
          | none => simp [hj]
          | some x => simp
        exact absurd q this
  have htk : t ≠ k := fun e => by
    subst e; rcases hd2 t with q | q
    · simp [one] at q
    · simp [uni, one] at q
  have hin : ∀ {j : Nat} {o : Obj}, m j = some o → uni (one t ot) (uni (one k om) m) j = some o := fun {j o} hj => by
    obtain ⟨h1, h2⟩ := hk hj
    simp [uni, one, h1, h2, hj]
  have hr : ∀ l' : List (Int × PN), rawN (L.top t k) l' = rawN L l' := fun l' => rawN_lay fun _ _ _ => rfl
  have cls : ∀ r, act ⟨l, [], 0⟩ r → r = .t ∨ r = .mk ∨ (part r ∧ (L.top t k) r = L r) := fun r _ => by
    cases r with
    | t => exact .inl rfl
    | mk => exact .inr (.inl rfl)
    | nb => exact .inr (.inr ⟨⟨by simp, by simp⟩, rfl⟩)
    | nd j => exact .inr (.inr ⟨⟨by simp, by simp⟩, rfl⟩)
    | ab j => exact .inr (.inr ⟨⟨by simp, by simp⟩, rfl⟩)
    | kb j => exact .inr (.inr ⟨⟨by simp, by simp⟩, rfl⟩)
  refine ⟨fun r _ ha => ?_, fun r s _ _ ha hb e => ?_, h.nod⟩
  · rcases cls r ha with rfl | rfl | ⟨hp, e⟩
    · refine ⟨ot, by simp [Lay.top, uni, one], et, ?_⟩
      rw [← hot]; rfl
    · refine ⟨om, by simp [Lay.top, uni, one, Ne.symm htk], trivial⟩
    · obtain ⟨o, h1, h2⟩ := h.has r hp ha
      refine ⟨o, by rw [e]; exact hin h1, ?_⟩
      cases r with
      | t => exact absurd rfl hp.1
      | mk => trivial
      | nb => show MapI _ _ _; rw [hr]; exact h2
      | nd j => exact h2
      | ab j => exact h2
      | kb j => exact h2
  · rcases cls r ha with rfl | rfl | ⟨hp, e1⟩ <;> rcases cls s hb with rfl | rfl | ⟨hp2, e2⟩
    · rfl
    · exact absurd e htk
    · obtain ⟨o, h1, _⟩ := h.has s hp2 hb
      rw [e2] at e
      exact absurd e.symm (hk h1).2
    · exact absurd e.symm htk
    · rfl
    · obtain ⟨o, h1, _⟩ := h.has s hp2 hb
      rw [e2] at e
      exact absurd e.symm (hk h1).1
    · obtain ⟨o, h1, _⟩ := h.has r hp ha
      rw [e1] at e
      exact absurd e (hk h1).2
    · obtain ⟨o, h1, _⟩ := h.has r hp ha
      rw [e1] at e
      exact absurd e (hk h1).1
    · obtain ⟨o, h1, _⟩ := h.has r hp ha
      rw [e1, e2] at e
      exact h.sep r s hp hp2 ha hb e
end Go.Proofs.Ytdpknchgoeboaaa.Vc

/- A node, a tree: made. -/
set_option linter.unusedVariables false
set_option linter.unusedSimpArgs false
set_option maxRecDepth 100000
namespace Go.Proofs.Ytdpknchgoeboaaa.Vc
open Go Go.Proofs

theorem mup_node {R : Role → Prop} {m mb : PH} {L : Lay} {T : PT} {idsV : Value} {n : Int} {b : Nat} {d : Option Nat} {σ : SS} {K : KT} (h : TreeT R m L T idsV) (hR : R .nb) (hd : dis mb m) (hm : σ.m = uni mb m)
    (hK : ∀ o', MapI (some .i64) o' (mput (rawN L T.nodes) (.int .i64 n) (ptr b)) → K ({ σ with m := (uni mb m).upd (L .nb) o' }.put d .no)) : mupK (some .i64) (L .nb) (.int .i64 n) (.pointer (some ⟨b, 0, none⟩)) d K σ := by
  obtain ⟨o, h1, h2⟩ := h.has .nb hR trivial
  refine ⟨o, _, by rw [hm]; exact (uni_r hd h1).1, h2, rfl, fun o' ho' => ?_⟩
  have := hK o' ho'
  rwa [hm]

theorem bare_spec (w : World) : Spec Try.prog f_tree_bare [] PH.no w fun rs m' => ∃ b a k, rs = [.s (ptr b)] ∧ BareM m' b a k := by
  refine spec_of k_tree_bare [] (by simp) (by simp [AV.ok]) ?_
  simp (maxSteps := 2000000) only [c_tree_bare, vc_seq, vc_rg, thenQ_n, kKeep_eq, segs_nil, segs_n, ops_nil, ops_cons, vcOp, ev, put_mk, keep_mk, keepL, Value.oneCell', cond_true, initF, initP, gPlace_zero, ptr]
  intro a oa ha _
  simp (maxSteps := 2000000) only [ops_cons, vcOp, put_mk]
  intro k ok hk hdk
  simp (maxSteps := 2000000) only [ops_cons, vcOp, ev, evL, gvL, look, updL, put_mk, GV.getT, GV.same, GV.setT, Nat.reduceEqDiff, ↓reduceIte, Bool.and_true, Bool.true_and, true_and, and_true, List.map_cons, List.map_nil, Option.map_some, GV.bldT, GV.bldC]
  refine ⟨⟨rfl, rfl⟩, gh_pubBox 0 4 rfl rfl fun v u hv hp hd => ?_⟩
  obtain ⟨hok, b, e, rfl, rfl⟩ := hp
  simp (maxSteps := 2000000) only [vc_ret, thenQ_n, kKeep_eq, finQ_r, segs_nil, ops_nil, look, keep_mk, keepL, cond_true, cond_false, ↓reduceIte, BEq.rfl, kill, SV.mentions]
  refine fin_m _ rfl (fun _ _ h => h) ⟨b, a, k, rfl, ?_⟩
  rw [uni_no_r] at hdk hd ⊢
  have hak : a ≠ k := fun e => by subst e; rcases hdk a with q | q <;> simp [one] at q
  have hbk : b ≠ k := fun e => by subst e; rcases hd b with q | q <;> simp [one, uni] at q
  have hba : b ≠ a := fun e => by subst e; rcases hd b with q | q <;> simp [one, uni, hak] at q
  exact ⟨hba, hbk, hak, ⟨e, by simp [uni, one]; rfl⟩, ⟨oa, by simp [uni, one, Ne.symm hba, hak], ha _⟩, ⟨ok, by simp [uni, one, Ne.symm hbk], hk _⟩⟩

def T0 : PT := ⟨[(1, PN.bare), (2, PN.bare)], [], 0⟩
theorem New_spec (w : World) : Spec Try.prog f_tree_New [] PH.no w fun rs m' => ∃ L, rs = [.s (ptr (L .t))] ∧ TM m' L T0 := by
  refine spec_of k_tree_New [] (by simp) (by simp [AV.ok]) ?_
  simp (maxSteps := 2000000) only [c_tree_New, vc_seq, vc_rg, thenQ_n, kKeep_eq, segs_nil, segs_n, ops_nil, ops_cons, vcOp, ev, put_mk, keep_mk, keepL, Value.oneCell', cond_true, initF, initP, ptr]
  intro nb o0 ho0 _
  simp (maxSteps := 2000000) only [ops_cons, vcOp, put_mk]
  refine call_ownm rfl rfl (Q := fun rs m' => ∃ b a k, rs = [.s (ptr b)] ∧ BareM m' b a k) (fun w' vs hv hw _ _ => ?_) fun rs m1 _ hq hd1 => ?_
  · obtain rfl := argsV_nil hv
    exact bare_spec w'
  obtain ⟨b1, a1, k1, rfl, hb1⟩ := hq
  simp (maxSteps := 2000000) only [retS, ops_cons, vcOp, ev, look, put_mk, Value.oneCell', cond_true, Nat.reduceEqDiff, ↓reduceIte, ptr]
  have hd1' : dis m1 (one nb o0) := by have := hd1; simp only [uni_no_r] at this; exact this
  have t0 := TreeT.none (nb := nb) (ho0 (some .i64))
  refine mup_node (L := fun _ => nb) (T := PT.empty) t0 ⟨by simp, by simp⟩ hd1' (by rw [uni_no_r]) fun o1 ho1 => ?_
  have t1 := t0.add ⟨by simp, by simp⟩ hb1 hd1' rfl ho1
  generalize hM1 : (uni m1 (one nb o0)).upd nb o1 = M1 at *
  simp (maxSteps := 2000000) only [ops_cons, vcOp, put_mk0]
  refine call_ownm rfl rfl (Q := fun rs m' => ∃ b a k, rs = [.s (ptr b)] ∧ BareM m' b a k) (fun w' vs hv hw _ _ => ?_) fun rs m2 _ hq hd2 => ?_
  · obtain rfl := argsV_nil hv
    exact bare_spec w'
  obtain ⟨b2, a2, k2, rfl, hb2⟩ := hq
  simp (maxSteps := 2000000) only [retS, ops_cons, vcOp, ev, look, put_mk, Value.oneCell', cond_true, Nat.reduceEqDiff, ↓reduceIte, ptr]
  refine mup_node t1 ⟨by simp, by simp⟩ hd2 rfl fun o2 ho2 => ?_
  have t2 := t1.add ⟨by simp, by simp⟩ hb2 hd2 rfl ho2
  generalize hM2 : (uni m2 M1).upd _ o2 = M2 at *
  simp (maxSteps := 2000000) only [ops_cons, vcOp, ev, evL, gvL, look, updL, put_mk, put_mk0, Nat.reduceEqDiff, ↓reduceIte, Bool.true_and, true_and, List.map_nil, GV.bldT, GV.bldC]
  refine gh_pubBox 6 6 rfl rfl fun v u hv hp hd => ?_
  obtain ⟨hok, k, e, rfl, rfl⟩ := hp
  simp (maxSteps := 2000000) only [dropK, ops_cons, vcOp, ev, evL, gvL, look, updL, put_mk, GV.getT, GV.same, GV.setT, cond_true, cond_false, Nat.reduceEqDiff, ↓reduceIte, Bool.and_true, Bool.true_and, BEq.rfl, true_and, and_true, List.map_cons, List.map_nil, Option.map_some, kill, SV.mentions, GV.bldT, GV.bldC]
  refine ⟨⟨rfl, rfl⟩, gh_pubBox 0 8 rfl rfl fun v u hv' hp' hd' => ?_⟩
  obtain ⟨hok', t, e', rfl, rfl⟩ := hp'
  simp (maxSteps := 2000000) only [vc_ret, thenQ_n, kKeep_eq, finQ_r, segs_nil, ops_nil, look, keep_mk, keepL, cond_true, cond_false, ↓reduceIte, BEq.rfl, kill, SV.mentions]
  have hM := TreeM.make (ei := 3) (et := e') (m := M2) (L := (Lay.add (fun x => nb) 1 b1 a1 k1).add 2 b2 a2 k2) (l := T0.nodes) (t := t) (k := k) t2 hd hd'
  exact fin_m _ rfl (fun _ _ h => h) ⟨_, rfl, hM⟩
end Go.Proofs.Ytdpknchgoeboaaa.Vc

/- A tree written to. -/
set_option linter.unusedVariables false
set_option linter.unusedSimpArgs false
namespace Go.Proofs.Ytdpknchgoeboaaa.Vc
open Go

section
variable {e : TypeId} {m : PH} {L : Lay} {T : PT} {k : Int} {x : PN}
theorem act_mod {f : PN → PN} {s : Role} (h : act (T.mod k f) s) : act T s := by
  have key : ∀ j n, (T.mod k f).get j = some n → ∃ n', T.get j = some n' := fun j n hn => by
    rw [PT.get_mod] at hn
    split at hn
    · cases hg : T.get j with
      | none => rw [hg] at hn; cases hn
      | some y => exact ⟨y, rfl⟩
    · exact ⟨n, hn⟩
  cases s with
  | nd j => obtain ⟨n, hn⟩ := h; exact key j n hn
  | ab j => obtain ⟨n, hn⟩ := h; exact key j n hn
  | kb j => obtain ⟨n, hn⟩ := h; exact key j n hn
  | t => trivial
  | nb => trivial
  | mk => trivial
theorem get_mod_self {f : PN → PN} (hx : T.get k = some x) : (T.mod k f).get k = some (f x) := by rw [PT.get_mod, if_pos rfl, hx]; rfl
theorem get_mod_ne {f : PN → PN} {j : Int} (h : j ≠ k) : (T.mod k f).get j = T.get j := by rw [PT.get_mod, if_neg h]

theorem TreeM.modKids {f : PN → PN} (h : TreeM e m L T) (hx : T.get k = some x) (hf : ∀ y, (f y).parent = y.parent ∧ (f y).name = y.name ∧ (f y).attrs = y.attrs) {o' : Obj} (ho : MapI (some .i64) o' (rawK (f x).kids)) : TreeM e (m.upd (L (.kb k)) o') L (T.mod k f) := by
  refine h.upd (.kb k) ⟨x, hx⟩ o' rfl (fun s => act_mod) (by rw [PT.mod, keys_mod]; exact h.nod) (fun idsV o _ => fun n hn => ?_) fun s hs ha idsV o hh => ?_
  · rw [get_mod_self hx] at hn; cases hn; exact ho
  · cases s with
    | t => exact hh
    | mk => trivial
    | nb => show MapI _ _ _; rw [PT.mod, rawN_mod]; exact hh
    | nd j =>
      intro n hn
      by_cases hj : j = k
      · subst hj; rw [get_mod_self hx] at hn; cases hn
        obtain ⟨h1, h2, _⟩ := hf x
        obtain ⟨e', he'⟩ := hh x hx
        exact ⟨e', by rw [he', h1, h2]⟩
      · rw [get_mod_ne hj] at hn; exact hh n hn
    | ab j =>
      intro n hn
      by_cases hj : j = k
      · subst hj; rw [get_mod_self hx] at hn; cases hn
        rw [(hf x).2.2]; exact hh x hx
      · rw [get_mod_ne hj] at hn; exact hh n hn
    | kb j =>
      intro n hn
      by_cases hj : j = k
      · subst hj; exact absurd rfl hs
      · rw [get_mod_ne hj] at hn; exact hh n hn
theorem TreeM.modAttrs {f : PN → PN} (h : TreeM e m L T) (hx : T.get k = some x) (hf : ∀ y, (f y).parent = y.parent ∧ (f y).name = y.name ∧ (f y).kids = y.kids) {o' : Obj} (ho : MapI none o' (rawA (f x).attrs)) : TreeM e (m.upd (L (.ab k)) o') L (T.mod k f) := by
  refine h.upd (.ab k) ⟨x, hx⟩ o' rfl (fun s => act_mod) (by rw [PT.mod, keys_mod]; exact h.nod) (fun idsV o _ => fun n hn => ?_) fun s hs ha idsV o hh => ?_
  · rw [get_mod_self hx] at hn; cases hn; exact ho
  · cases s with
    | t => exact hh
    | mk => trivial
    | nb => show MapI _ _ _; rw [PT.mod, rawN_mod]; exact hh
    | nd j =>
      intro n hn
      by_cases hj : j = k
      · subst hj; rw [get_mod_self hx] at hn; cases hn
        obtain ⟨h1, h2, _⟩ := hf x
        obtain ⟨e', he'⟩ := hh x hx
        exact ⟨e', by rw [he', h1, h2]⟩
      · rw [get_mod_ne hj] at hn; exact hh n hn
    | kb j =>
      intro n hn
      by_cases hj : j = k
      · subst hj; rw [get_mod_self hx] at hn; cases hn
        rw [(hf x).2.2]; exact hh x hx
      · rw [get_mod_ne hj] at hn; exact hh n hn
    | ab j =>
      intro n hn
      by_cases hj : j = k
      · subst hj; exact absurd rfl hs
      · rw [get_mod_ne hj] at hn; exact hh n hn
theorem TreeM.modPlace {f : PN → PN} (h : TreeM e m L T) (hx : T.get k = some x) (hf : ∀ y, (f y).attrs = y.attrs ∧ (f y).kids = y.kids) {e' : TypeId} : TreeM e (m.upd (L (.nd k)) (.cells #[.int .i64 (f x).parent, .string (f x).name, .map (some (L (.ab k))), .map (some (L (.kb k)))] e' (0, 0))) L (T.mod k f) := by
  refine h.upd (.nd k) ⟨x, hx⟩ _ rfl (fun s => act_mod) (by rw [PT.mod, keys_mod]; exact h.nod) (fun idsV o _ => fun n hn => ?_) fun s hs ha idsV o hh => ?_
  · rw [get_mod_self hx] at hn; cases hn; exact ⟨e', rfl⟩
  · cases s with
    | t => exact hh
    | mk => trivial
    | nb => show MapI _ _ _; rw [PT.mod, rawN_mod]; exact hh
    | nd j =>
      intro n hn
      by_cases hj : j = k
      · subst hj; exact absurd rfl hs
      · rw [get_mod_ne hj] at hn; exact hh n hn
    | ab j =>
      intro n hn
      by_cases hj : j = k
      · subst hj; rw [get_mod_self hx] at hn; cases hn
        rw [(hf x).1]; exact hh x hx
      · rw [get_mod_ne hj] at hn; exact hh n hn
    | kb j =>
      intro n hn
      by_cases hj : j = k
      · subst hj; rw [get_mod_self hx] at hn; cases hn
        rw [(hf x).2]; exact hh x hx
      · rw [get_mod_ne hj] at hn; exact hh n hn

def PT.unkid (T : PT) (k n : Int) : PT := T.mod k fun x => { x with kids := x.kids.erase n }
def PT.kid (T : PT) (k n : Int) : PT := T.mod k fun x => { x with kids := putK x.kids n }
def PT.place (T : PT) (n parent : Int) (name : ByteArray) : PT := T.mod n fun x => { x with parent := parent, name := name }
def PT.attr (T : PT) (n : Int) (key value : ByteArray) : PT := T.mod n fun x => { x with attrs := if value = ⟨#[]⟩ then delS x.attrs key else putS x.attrs key value }
def PT.del (T : PT) (n : Int) : PT := { T with nodes := delA T.nodes n }
theorem mod_none {f : PN → PN} (h : T.get k = none) : T.mod k f = T := by
  have : ∀ l : List (Int × PN), getA l k = none → modA f l k = l := by
    intro l
    induction l with
    | nil => intro _; rfl
    | cons p l ih =>
      obtain ⟨j, y⟩ := p
      intro h
      by_cases hj : j = k
      · simp [getA, hj] at h
      · simp only [getA, hj, if_false] at h
        simp only [modA, hj, if_false, ih h]
  unfold PT.mod
  rw [this _ h]

variable {C : Ctx} {σ : SS} {d : Option Nat} {K : KT} {n : Int}
theorem TreeM.unkid (h : TreeM e σ.m L T) (hx : T.get k = some x) (hK : ∀ m', TreeM e m' L (T.unkid k n) → K ({ σ with m := m' }.put d (.tup []))) : mdlK (some .i64) (L (.kb k)) (.int .i64 n) d K σ := by
  obtain ⟨o, idsV, h1, h2⟩ := h.at (.kb k) ⟨x, hx⟩
  refine ⟨o, _, h1, h2 x hx, rfl, fun o' ho' => hK _ ?_⟩
  rw [mdel_rawK] at ho'
  exact h.modKids (f := fun x => { x with kids := x.kids.erase n }) hx (fun y => ⟨rfl, rfl, rfl⟩) ho'
theorem TreeM.kid (h : TreeM e σ.m L T) (hx : T.get k = some x) (hK : ∀ m', TreeM e m' L (T.kid k n) → K ({ σ with m := m' }.put d .no)) : mupK (some .i64) (L (.kb k)) (.int .i64 n) (.int .i64 1) d K σ := by
  obtain ⟨o, idsV, h1, h2⟩ := h.at (.kb k) ⟨x, hx⟩
  refine ⟨o, _, h1, h2 x hx, rfl, fun o' ho' => hK _ ?_⟩
  rw [mput_rawK] at ho'
  exact h.modKids (f := fun x => { x with kids := putK x.kids n }) hx (fun y => ⟨rfl, rfl, rfl⟩) ho'
theorem TreeM.place (h : TreeM e σ.m L T) (hx : T.get k = some x) {p : Place} (hK : ∀ m', TreeM e m' L (T.place k p.parent p.name) → K ({ σ with m := m' }.put d .no)) : stK σ (L (.nd k)) 0 2 (gPlace p) d K := by
  obtain ⟨o, idsV, h1, h2⟩ := h.at (.nd k) ⟨x, hx⟩
  obtain ⟨e', rfl⟩ := h2 x hx
  refine st_of (gPlace_sz p) _ e' ⟨h1, by simp⟩ ?_
  have := h.modPlace (f := fun x => { x with parent := p.parent, name := p.name }) hx (fun y => ⟨rfl, rfl⟩) (e' := e')
  exact hK _ this
theorem TreeM.attrDel {key : ByteArray} (h : TreeM e σ.m L T) (hx : T.get k = some x) (hK : ∀ m', TreeM e m' L (T.attr k key ⟨#[]⟩) → K ({ σ with m := m' }.put d (.tup []))) : mdlK none (L (.ab k)) (.string key) d K σ := by
  obtain ⟨o, idsV, h1, h2⟩ := h.at (.ab k) ⟨x, hx⟩
  refine ⟨o, _, h1, h2 x hx, trivial, fun o' ho' => hK _ ?_⟩
  rw [mdel_rawA] at ho'
  exact h.modAttrs (f := fun x => { x with attrs := if (⟨#[]⟩ : ByteArray) = ⟨#[]⟩ then delS x.attrs key else putS x.attrs key ⟨#[]⟩ }) hx (fun y => ⟨rfl, rfl, rfl⟩) (by simp only [if_true]; exact ho')
theorem TreeM.attrPut {key value : ByteArray} (hv : value ≠ ⟨#[]⟩) (h : TreeM e σ.m L T) (hx : T.get k = some x) (hK : ∀ m', TreeM e m' L (T.attr k key value) → K ({ σ with m := m' }.put d .no)) : mupK none (L (.ab k)) (.string key) (.string value) d K σ := by
  obtain ⟨o, idsV, h1, h2⟩ := h.at (.ab k) ⟨x, hx⟩
  refine ⟨o, _, h1, h2 x hx, trivial, fun o' ho' => hK _ ?_⟩
  rw [mput_rawA] at ho'
  exact h.modAttrs (f := fun x => { x with attrs := if value = ⟨#[]⟩ then delS x.attrs key else putS x.attrs key value }) hx (fun y => ⟨rfl, rfl, rfl⟩) (by simp only [if_neg hv]; exact ho')
theorem TreeM.delNode (h : TreeM e σ.m L T) (hK : ∀ m', TreeM e m' L (T.del n) → K ({ σ with m := m' }.put d (.tup []))) : mdlK (some .i64) (L .nb) (.int .i64 n) d K σ := by
  obtain ⟨o, idsV, h1, h2⟩ := h.at .nb trivial
  have hg : ∀ j y, (T.del n).get j = some y → j ≠ n ∧ T.get j = some y := fun j y hy => by
    unfold PT.get PT.del at hy
    rw [getA_del h.nod] at hy
    split at hy
    · cases hy
    · rename_i hj; exact ⟨hj, hy⟩
  have hact : ∀ s, act (T.del n) s → act T s := fun s hs => by
    cases s with
    | nd j => obtain ⟨y, hy⟩ := hs; exact ⟨y, (hg j y hy).2⟩
    | ab j => obtain ⟨y, hy⟩ := hs; exact ⟨y, (hg j y hy).2⟩
    | kb j => obtain ⟨y, hy⟩ := hs; exact ⟨y, (hg j y hy).2⟩
    | t => trivial
    | nb => trivial
    | mk => trivial
  refine ⟨o, _, h1, h2, rfl, fun o' ho' => hK _ ?_⟩
  rw [mdel_rawN] at ho'
  refine h.upd .nb trivial o' rfl hact (by rw [PT.del, keys_del]; exact h.nod.erase _) (fun idsV o _ => ho') fun s hs ha idsV o hh => ?_
  cases s with
  | t => exact hh
  | mk => trivial
  | nb => exact absurd rfl hs
  | nd j => exact fun y hy => hh y (hg j y hy).2
  | ab j => exact fun y hy => hh y (hg j y hy).2
  | kb j => exact fun y hy => hh y (hg j y hy).2
end
end Go.Proofs.Ytdpknchgoeboaaa.Vc

/- The code of some functions of the program, its types resolved: printed by a program of this claim. -/
set_option linter.unusedVariables false
set_option maxRecDepth 100000
namespace Go.Proofs.Ytdpknchgoeboaaa.Vc
open Go Go.Proofs

abbrev f_tree_Tree_Do : Nat := 16
def c_tree_Tree_Do_R14 : Cd :=
 (.seq (.gh (.rga (.op ⟨none, [(some 97, .mv (.t 0))]⟩ (.op ⟨none, [(some 98, .mv (.t 0))]⟩ (.op ⟨none, [(some 99, .nilc (.t 98))]⟩ (.op ⟨none, [(some 100, .fldA (.t 99) 3 3)]⟩ (.op ⟨none, [(some 102, .fldA (.t 6) 1 1)]⟩ (.or (.op ⟨none, [(some 101, .ld (.t 100) 1 false)]⟩ (.op ⟨none, [(some 103, .ld (.t 102) 1 false)]⟩ (.op ⟨none, [(some 104, .bldS 3 1 (.s (.int .i64 0)) [(.t 103)])]⟩ (.op ⟨none, [(some 105, .app 3 1 8 (.s (.int .i64 0)) (.t 101) (.t 104))]⟩ (.op ⟨none, [(some 106, .nilc (.t 97))]⟩ (.op ⟨none, [(some 107, .fldA (.t 106) 3 3)]⟩ (.op ⟨none, [(none, .st (.t 107) (.t 105) 1)]⟩ .done))))))) (.op ⟨none, [(some 103, .ld (.t 102) 1 false)]⟩ (.or (.op ⟨none, [(some 101, .ld (.t 100) 1 false)]⟩ (.op ⟨none, [(some 104, .bldS 3 1 (.s (.int .i64 0)) [(.t 103)])]⟩ (.op ⟨none, [(some 105, .app 3 1 8 (.s (.int .i64 0)) (.t 101) (.t 104))]⟩ (.op ⟨none, [(some 106, .nilc (.t 97))]⟩ (.op ⟨none, [(some 107, .fldA (.t 106) 3 3)]⟩ (.op ⟨none, [(none, .st (.t 107) (.t 105) 1)]⟩ .done)))))) (.op ⟨none, [(some 104, .bldS 3 1 (.s (.int .i64 0)) [(.t 103)])]⟩ (.op ⟨none, [(some 101, .ld (.t 100) 1 false)]⟩ (.op ⟨none, [(some 105, .app 3 1 8 (.s (.int .i64 0)) (.t 101) (.t 104))]⟩ (.op ⟨none, [(some 106, .nilc (.t 97))]⟩ (.op ⟨none, [(some 107, .fldA (.t 106) 3 3)]⟩ (.op ⟨none, [(none, .st (.t 107) (.t 105) 1)]⟩ .done)))))))))))))) [4, 6]))
 (.seq (.rg [⟨none, [(some 108, .ld (.t 6) 13 true), (none, .st (.t 4) (.t 108) 13), (some 5, .mv (.c (.bool true)))]⟩] [4, 5])
 .ret))
def c_tree_Tree_Do : Cd :=
 (.seq (.rg [⟨none, [(some 3, .box 35 (.t 1)), (some 4, .new 41 (.c (.s (.pointer none)) (.c (.s (.int .i64 0)) (.c (.c (.c (.s (.int .i64 0)) (.c (.s (.int .i64 0)) .u)) (.c (.s (.int .i64 0)) (.c (.s (.int .i64 0)) (.c (.s (.int .i64 0)) (.c (.s (.string ⟨#[]⟩)) (.c (.s (.string ⟨#[]⟩)) (.c (.s (.string ⟨#[]⟩)) .u))))))) (.c (.c (.s (.int .i64 0)) (.c (.s (.string ⟨#[]⟩)) .u)) (.c (.s (.string ⟨#[]⟩)) .u)))))), (some 5, .mv (.c (.bool false)))]⟩] [0, 3, 4])
 (.seq (.seq (.rg [⟨none, [(some 7, .mv (.t 0)), (some 8, .ld (.t 3) 8 true), (some 9, .call 15 [(.t 7), (.t 8)]), (some 10, .un .not (.t 9))]⟩] [0, 3, 4, 10])
 (.ite (.t 10)
 (.seq (.rg [⟨none, [(some 11, .bld (.c (.s (.pointer none)) (.c (.s (.int .i64 0)) (.c (.c (.c (.s (.int .i64 0)) (.c (.s (.int .i64 0)) .u)) (.c (.s (.int .i64 0)) (.c (.s (.int .i64 0)) (.c (.s (.int .i64 0)) (.c (.s (.string ⟨#[]⟩)) (.c (.s (.string ⟨#[]⟩)) (.c (.s (.string ⟨#[]⟩)) .u))))))) (.c (.c (.s (.int .i64 0)) (.c (.s (.string ⟨#[]⟩)) .u)) (.c (.s (.string ⟨#[]⟩)) .u))))) []), (none, .st (.t 4) (.t 11) 13), (some 5, .mv (.c (.bool false)))]⟩] [4, 5])
 .ret)
 .skip))
 (.seq (.rg [⟨none, [(some 12, .mv (.t 0)), (some 13, .nilc (.t 12)), (some 14, .fldA (.t 13) 4 4), (some 15, .ld (.t 14) 1 false), (some 16, .bin .add (.t 15) (.c (.int .i64 1))), (some 17, .nilc (.t 12)), (some 18, .fldA (.t 17) 4 4), (none, .st (.t 18) (.t 16) 1)]⟩] [0, 3, 4])
 (.seq (.rga (.held [3] (.op ⟨none, [(some 19, .mv (.t 0))]⟩ (.op ⟨none, [(some 20, .nilc (.t 19))]⟩ (.op ⟨none, [(some 21, .fldA (.t 20) 1 1)]⟩ (.op ⟨none, [(some 23, .mv (.t 0))]⟩ (.op ⟨none, [(some 24, .nilc (.t 23))]⟩ (.op ⟨none, [(some 25, .fldA (.t 24) 4 4)]⟩ (.first ⟨none, [(some 22, .ld (.t 21) 1 false)]⟩ (.first ⟨none, [(some 26, .ld (.t 25) 1 false)]⟩ (.first ⟨none, [(some 27, .ld (.t 3) 8 true)]⟩ (.op ⟨none, [(some 28, .bld (.c (.s (.pointer none)) (.c (.s (.int .i64 0)) (.c (.c (.c (.s (.int .i64 0)) (.c (.s (.int .i64 0)) .u)) (.c (.s (.int .i64 0)) (.c (.s (.int .i64 0)) (.c (.s (.int .i64 0)) (.c (.s (.string ⟨#[]⟩)) (.c (.s (.string ⟨#[]⟩)) (.c (.s (.string ⟨#[]⟩)) .u))))))) (.c (.c (.s (.int .i64 0)) (.c (.s (.string ⟨#[]⟩)) .u)) (.c (.s (.string ⟨#[]⟩)) .u))))) [(0, (.t 22)), (1, (.t 26)), (2, (.t 27))])]⟩ (.op ⟨none, [(some 6, .new 41 (.c (.s (.pointer none)) (.c (.s (.int .i64 0)) (.c (.c (.c (.s (.int .i64 0)) (.c (.s (.int .i64 0)) .u)) (.c (.s (.int .i64 0)) (.c (.s (.int .i64 0)) (.c (.s (.int .i64 0)) (.c (.s (.string ⟨#[]⟩)) (.c (.s (.string ⟨#[]⟩)) (.c (.s (.string ⟨#[]⟩)) .u))))))) (.c (.c (.s (.int .i64 0)) (.c (.s (.string ⟨#[]⟩)) .u)) (.c (.s (.string ⟨#[]⟩)) .u))))))]⟩ (.op ⟨none, [(none, .st (.t 6) (.t 28) 13)]⟩ .done))))))))))))) [0, 3, 4, 6])
 (.seq (.seq (.rg [⟨none, [(some 29, .fldA (.t 3) 1 2), (some 30, .ld (.t 29) 1 false)]⟩] [0, 3, 4, 6, 30])
 (.block 0 (.seq (.rg [⟨none, [(some 58, .bin .eql (.t 30) (.c (.int .i64 1))), (some 57, .mv (.t 58))]⟩] [0, 3, 4, 6, 30, 57])
 (.ite (.t 57)
 (.seq (.rga (.op ⟨none, [(some 59, .mv (.t 0))]⟩ (.op ⟨none, [(some 60, .nilc (.t 59))]⟩ (.op ⟨none, [(some 61, .fldA (.t 60) 0 0)]⟩ (.op ⟨none, [(some 63, .fldA (.t 3) 2 3)]⟩ (.or (.op ⟨none, [(some 62, .ld (.t 61) 1 false)]⟩ (.or (.op ⟨none, [(some 64, .ld (.t 63) 1 false)]⟩ (.op ⟨none, [(some 65, .call 41 [])]⟩ (.op ⟨none, [(none, .mup (some .i64) (.t 62) (.t 64) (.t 65))]⟩ .done))) (.op ⟨none, [(some 65, .call 41 [])]⟩ (.op ⟨none, [(some 64, .ld (.t 63) 1 false)]⟩ (.op ⟨none, [(none, .mup (some .i64) (.t 62) (.t 64) (.t 65))]⟩ .done))))) (.or (.op ⟨none, [(some 64, .ld (.t 63) 1 false)]⟩ (.or (.op ⟨none, [(some 62, .ld (.t 61) 1 false)]⟩ (.op ⟨none, [(some 65, .call 41 [])]⟩ (.op ⟨none, [(none, .mup (some .i64) (.t 62) (.t 64) (.t 65))]⟩ .done))) (.op ⟨none, [(some 65, .call 41 [])]⟩ (.op ⟨none, [(some 62, .ld (.t 61) 1 false)]⟩ (.op ⟨none, [(none, .mup (some .i64) (.t 62) (.t 64) (.t 65))]⟩ .done))))) (.op ⟨none, [(some 65, .call 41 [])]⟩ (.or (.op ⟨none, [(some 62, .ld (.t 61) 1 false)]⟩ (.op ⟨none, [(some 64, .ld (.t 63) 1 false)]⟩ (.op ⟨none, [(none, .mup (some .i64) (.t 62) (.t 64) (.t 65))]⟩ .done))) (.op ⟨none, [(some 64, .ld (.t 63) 1 false)]⟩ (.op ⟨none, [(some 62, .ld (.t 61) 1 false)]⟩ (.op ⟨none, [(none, .mup (some .i64) (.t 62) (.t 64) (.t 65))]⟩ .done))))))))))) [0, 3, 4, 6])
 (.rg [⟨none, [(some 66, .mv (.t 0)), (some 67, .fldA (.t 3) 2 3), (some 68, .ld (.t 67) 1 false), (some 69, .fldA (.t 3) 3 4), (some 70, .ld (.t 69) 1 false), (some 71, .fldA (.t 3) 4 5), (some 72, .ld (.t 71) 1 false), (some 73, .bld (.c (.s (.int .i64 0)) (.c (.s (.string ⟨#[]⟩)) .u)) [(0, (.t 70)), (1, (.t 72))]), (some 74, .call 42 [(.t 66), (.t 68), (.t 73)])]⟩] [0, 4, 6]))
 (.seq (.rg [⟨none, [(some 76, .bin .eql (.t 30) (.c (.int .i64 2))), (some 75, .mv (.t 76))]⟩] [0, 3, 4, 6, 75])
 (.ite (.t 75)
 (.seq (.rgq [⟨none, [(some 77, .mv (.t 0)), (some 78, .nilc (.t 77)), (some 79, .fldA (.t 78) 0 0), (some 80, .ld (.t 79) 1 false), (some 81, .fldA (.t 3) 2 3), (some 82, .ld (.t 81) 1 false)]⟩] [⟨none, [(some 83, .mlk (some .i64) (.t 80) (.t 82) (.pointer none) false), (some 84, .nilc (.t 83)), (some 85, .fldA (.t 84) 0 0), (some 86, .ld (.t 85) 2 true), (some 87, .fldA (.t 6) 3 10), (none, .st (.t 87) (.t 86) 2)]⟩] [0, 3, 4, 6])
 (.rg [⟨none, [(some 88, .mv (.t 0)), (some 89, .fldA (.t 3) 2 3), (some 90, .ld (.t 89) 1 false), (some 91, .fldA (.t 3) 3 4), (some 92, .ld (.t 91) 1 false), (some 93, .fldA (.t 3) 4 5), (some 94, .ld (.t 93) 1 false), (some 95, .bld (.c (.s (.int .i64 0)) (.c (.s (.string ⟨#[]⟩)) .u)) [(0, (.t 92)), (1, (.t 94))]), (some 96, .call 42 [(.t 88), (.t 90), (.t 95)])]⟩] [0, 4, 6]))
 (.seq (.rgq [⟨none, [(some 31, .mv (.t 0)), (some 32, .nilc (.t 31)), (some 33, .fldA (.t 32) 0 0), (some 34, .ld (.t 33) 1 false), (some 35, .fldA (.t 3) 2 3), (some 36, .ld (.t 35) 1 false), (some 37, .mlk (some .i64) (.t 34) (.t 36) (.pointer none) false), (some 38, .nilc (.t 37)), (some 39, .fldA (.t 38) 1 2), (some 40, .ld (.t 39) 1 false), (some 41, .fldA (.t 3) 5 6), (some 42, .ld (.t 41) 1 false)]⟩] [⟨none, [(some 43, .mlk none (.t 40) (.t 42) (.string ⟨#[]⟩) false), (some 44, .fldA (.t 6) 4 12), (none, .st (.t 44) (.t 43) 1)]⟩] [0, 3, 4, 6])
 (.rgq [⟨none, [(some 45, .mv (.t 0)), (some 46, .nilc (.t 45)), (some 47, .fldA (.t 46) 0 0), (some 48, .ld (.t 47) 1 false), (some 49, .fldA (.t 3) 2 3), (some 50, .ld (.t 49) 1 false), (some 51, .mlk (some .i64) (.t 48) (.t 50) (.pointer none) false), (some 52, .fldA (.t 3) 5 6), (some 53, .ld (.t 52) 1 false), (some 54, .fldA (.t 3) 6 7), (some 55, .ld (.t 54) 1 false)]⟩] [⟨none, [(some 56, .call 43 [(.t 51), (.t 53), (.t 55)])]⟩] [0, 4, 6]))))))))
 c_tree_Tree_Do_R14)))))
theorem k_tree_Tree_Do : Ok Try.prog 16 c_tree_Tree_Do 109 [(4, 999998), (9, 999999), (12, 6), (6, 12), (7, 11), (14, 999999)] [.cell 4 13 true, .tmp 5] := Ok.mk' Try.func16 (by kernel_rfl) (by kernel_rfl) (by kernel_rfl)

abbrev f_tree_node_attr : Nat := 43
def c_tree_node_attr : Cd :=
 (.seq (.rg [⟨none, [(some 6, .mv (.t 2)), (some 7, .bin .eql (.t 6) (.c (.string ⟨#[]⟩)))]⟩] [0, 1, 2, 7])
 (.ite (.t 7)
 (.rg [⟨none, [(some 8, .mv (.t 0)), (some 9, .nilc (.t 8)), (some 10, .fldA (.t 9) 1 2), (some 11, .ld (.t 10) 1 false), (some 12, .mv (.t 1)), (none, .mdl none (.t 11) (.t 12))]⟩] [])
 (.rg [⟨none, [(some 13, .mv (.t 0)), (some 14, .nilc (.t 13)), (some 15, .fldA (.t 14) 1 2), (some 16, .ld (.t 15) 1 false), (some 17, .mv (.t 1)), (some 18, .mv (.t 2)), (none, .mup none (.t 16) (.t 17) (.t 18))]⟩] [])))
theorem k_tree_node_attr : Ok Try.prog 43 c_tree_node_attr 19 [] [] := Ok.mk' Try.func43 (by kernel_rfl) (by kernel_rfl) (by kernel_rfl)

abbrev f_tree_Tree_Back : Nat := 17
def c_tree_Tree_Back : Cd :=
 (.seq (.rg [⟨none, [(some 3, .box 41 (.t 1)), (some 4, .mv (.c (.int .i64 0)))]⟩] [0, 3])
 (.seq (.seq (.rg [⟨none, [(some 6, .mv (.t 0)), (some 7, .call 34 [(.t 6)])]⟩] [0, 3, 7])
 (.ite (.t 7)
 (.seq (.rg [⟨none, [(some 4, .mv (.c (.int .i64 2)))]⟩] [4])
 .ret)
 .skip))
 (.seq (.seq (.rg [⟨none, [(some 8, .ld (.t 3) 13 true), (some 9, .bld (.c (.s (.pointer none)) (.c (.s (.int .i64 0)) (.c (.c (.c (.s (.int .i64 0)) (.c (.s (.int .i64 0)) .u)) (.c (.s (.int .i64 0)) (.c (.s (.int .i64 0)) (.c (.s (.int .i64 0)) (.c (.s (.string ⟨#[]⟩)) (.c (.s (.string ⟨#[]⟩)) (.c (.s (.string ⟨#[]⟩)) .u))))))) (.c (.c (.s (.int .i64 0)) (.c (.s (.string ⟨#[]⟩)) .u)) (.c (.s (.string ⟨#[]⟩)) .u))))) []), (some 10, .eqA false 41 (.t 8) (.t 9))]⟩] [0, 3, 10])
 (.ite (.t 10)
 (.seq (.rg [⟨none, [(some 4, .mv (.c (.int .i64 0)))]⟩] [4])
 .ret)
 .skip))
 (.seq (.rg [⟨none, [(some 11, .mv (.t 0)), (some 12, .nilc (.t 11)), (some 13, .fldA (.t 12) 3 3), (some 14, .ld (.t 13) 1 false), (some 15, .len (.t 14)), (some 16, .bin .sub (.t 15) (.c (.int .i64 1))), (some 5, .mv (.t 16))]⟩] [0, 3, 5])
 (.seq (.seq (.rgq [⟨none, [(some 17, .fldA (.t 3) 0 0), (some 18, .ld (.t 17) 1 false), (some 19, .mv (.t 0)), (some 20, .nilc (.t 19)), (some 21, .fldA (.t 20) 1 1), (some 22, .ld (.t 21) 1 false), (some 23, .eqA true 37 (.t 18) (.t 22)), (some 24, .mv (.t 23))]⟩, ⟨some (24, false), [(some 25, .mv (.t 5)), (some 26, .bin .lss (.t 25) (.c (.int .i64 0)))]⟩, ⟨none, [(some 27, .pick (.t 24) (.c (.bool true)) (.t 26)), (some 28, .mv (.t 27))]⟩, ⟨some (28, false), [(some 29, .mv (.t 0)), (some 30, .nilc (.t 29)), (some 31, .fldA (.t 30) 3 3), (some 32, .ld (.t 31) 1 false), (some 33, .mv (.t 5)), (some 34, .idxS (.t 32) (.t 33) 1), (some 35, .ld (.t 34) 1 false), (some 36, .fldA (.t 3) 1 1), (some 37, .ld (.t 36) 1 false)]⟩] [⟨some (28, false), [(some 38, .bin .neq (.t 35) (.t 37))]⟩, ⟨none, [(some 39, .pick (.t 28) (.c (.bool true)) (.t 38))]⟩] [0, 3, 5, 39])
 (.ite (.t 39)
 (.seq (.rg [⟨none, [(some 4, .mv (.c (.int .i64 120)))]⟩] [4])
 .ret)
 .skip))
 (.seq (.rg [⟨none, [(some 40, .mv (.t 0)), (some 41, .mv (.t 0)), (some 42, .nilc (.t 41)), (some 43, .fldA (.t 42) 3 3), (some 44, .ld (.t 43) 1 false), (some 45, .mv (.t 5)), (some 46, .sl 1 (.t 44) none (some (.t 45))), (some 47, .nilc (.t 40)), (some 48, .fldA (.t 47) 3 3), (none, .st (.t 48) (.t 46) 1)]⟩] [0, 3])
 (.seq (.seq (.rg [⟨none, [(some 49, .fldA (.t 3) 2 2), (some 50, .fldA (.t 49) 1 2), (some 51, .ld (.t 50) 1 false)]⟩] [0, 3, 51])
 (.block 0 (.seq (.rg [⟨none, [(some 67, .bin .eql (.t 51) (.c (.int .i64 1))), (some 66, .mv (.t 67))]⟩] [0, 3, 51, 66])
 (.ite (.t 66)
 (.seq (.rgq [⟨none, [(some 68, .mv (.t 0)), (some 69, .nilc (.t 68)), (some 70, .fldA (.t 69) 0 0), (some 71, .ld (.t 70) 1 false), (some 72, .fldA (.t 3) 2 2), (some 73, .fldA (.t 72) 3 4), (some 74, .ld (.t 73) 1 false), (some 75, .mlk (some .i64) (.t 71) (.t 74) (.pointer none) false), (some 76, .nilc (.t 75)), (some 77, .fldA (.t 76) 2 3), (some 78, .ld (.t 77) 1 false), (some 79, .fldA (.t 3) 2 2), (some 80, .fldA (.t 79) 2 3), (some 81, .ld (.t 80) 1 false)]⟩] [⟨none, [(none, .mdl (some .i64) (.t 78) (.t 81))]⟩] [0, 3])
 (.rgq [⟨none, [(some 82, .mv (.t 0)), (some 83, .nilc (.t 82)), (some 84, .fldA (.t 83) 0 0), (some 85, .ld (.t 84) 1 false), (some 86, .fldA (.t 3) 2 2), (some 87, .fldA (.t 86) 2 3), (some 88, .ld (.t 87) 1 false)]⟩] [⟨none, [(none, .mdl (some .i64) (.t 85) (.t 88))]⟩] []))
 (.seq (.rg [⟨none, [(some 90, .bin .eql (.t 51) (.c (.int .i64 2))), (some 89, .mv (.t 90))]⟩] [0, 3, 89])
 (.ite (.t 89)
 (.rg [⟨none, [(some 91, .mv (.t 0)), (some 92, .fldA (.t 3) 2 2), (some 93, .fldA (.t 92) 2 3), (some 94, .ld (.t 93) 1 false), (some 95, .fldA (.t 3) 3 10), (some 96, .ld (.t 95) 2 true), (some 97, .call 42 [(.t 91), (.t 94), (.t 96)])]⟩] [])
 (.rgq [⟨none, [(some 52, .mv (.t 0)), (some 53, .nilc (.t 52)), (some 54, .fldA (.t 53) 0 0), (some 55, .ld (.t 54) 1 false), (some 56, .fldA (.t 3) 2 2), (some 57, .fldA (.t 56) 2 3), (some 58, .ld (.t 57) 1 false), (some 59, .mlk (some .i64) (.t 55) (.t 58) (.pointer none) false), (some 60, .fldA (.t 3) 2 2), (some 61, .fldA (.t 60) 5 6), (some 62, .ld (.t 61) 1 false), (some 63, .fldA (.t 3) 4 12), (some 64, .ld (.t 63) 1 false)]⟩] [⟨none, [(some 65, .call 43 [(.t 59), (.t 62), (.t 64)])]⟩] [])))))))
 (.seq (.rg [⟨none, [(some 4, .mv (.c (.int .i64 0)))]⟩] [4])
 .ret))))))))
theorem k_tree_Tree_Back : Ok Try.prog 17 c_tree_Tree_Back 98 [(6, 21), (12, 14), (13, 7), (10, 13)] [.tmp 4] := Ok.mk' Try.func17 (by kernel_rfl) (by kernel_rfl) (by kernel_rfl)

abbrev f_tree_Tree_Lookup : Nat := 29
def c_tree_Tree_Lookup_L0 : Cd :=
 (.seq (.rg [⟨none, [(some 31, .nxt (.t 30)), (some 32, .ext (.t 31) 0)]⟩] [0, 2, 8, 30, 32])
 (.seq (.ite (.t 32)
 .skip
 (.exit 0))
 (.block 1 (.seq (.rg [⟨none, [(some 33, .ent (.t 30)), (some 34, .ext (.t 33) 0), (some 9, .mv (.t 34))]⟩] [0, 2, 8, 9, 30])
 (.seq (.rg [⟨none, [(some 35, .mv (.t 0)), (some 36, .nilc (.t 35)), (some 37, .fldA (.t 36) 0 0), (some 38, .ld (.t 37) 1 false), (some 39, .mv (.t 9)), (some 40, .mlk (some .i64) (.t 38) (.t 39) (.pointer none) false), (some 41, .nilc (.t 40)), (some 42, .fldA (.t 41) 0 0), (some 43, .fldA (.t 42) 1 1), (some 44, .ld (.t 43) 1 false), (some 45, .mv (.t 2)), (some 46, .bin .eql (.t 44) (.t 45)), (some 47, .mv (.t 46))]⟩, ⟨some (47, true), [(some 48, .mv (.t 8)), (some 49, .bin .eql (.t 48) (.c (.int .i64 0))), (some 50, .mv (.t 49))]⟩, ⟨some (50, false), [(some 51, .mv (.t 9)), (some 52, .mv (.t 8)), (some 53, .bin .lss (.t 51) (.t 52))]⟩, ⟨some (47, true), [(some 54, .pick (.t 50) (.c (.bool true)) (.t 53))]⟩, ⟨none, [(some 55, .pick (.t 47) (.t 54) (.c (.bool false)))]⟩] [0, 2, 8, 9, 30, 55])
 (.ite (.t 55)
 (.rg [⟨none, [(some 56, .mv (.t 9)), (some 8, .mv (.t 56))]⟩] [0, 2, 8, 30])
 .skip))))))
def c_tree_Tree_Lookup : Cd :=
 (.seq (.rg [⟨none, [(some 6, .mv (.c (.int .i64 0))), (some 7, .mv (.c (.bool false)))]⟩] [0, 1, 2])
 (.seq (.rg [⟨none, [(some 8, .mv (.c (.int .i64 0)))]⟩] [0, 1, 2, 8])
 (.seq (.seq (.rg [⟨none, [(some 10, .mv (.t 0)), (some 11, .call 34 [(.t 10)]), (some 12, .mv (.t 11))]⟩, ⟨some (12, false), [(some 13, .mv (.t 0)), (some 14, .nilc (.t 13)), (some 15, .fldA (.t 14) 0 0), (some 16, .ld (.t 15) 1 false), (some 17, .mv (.t 1)), (some 18, .mlk (some .i64) (.t 16) (.t 17) (.pointer none) false), (some 19, .eqA false 90 (.t 18) (.c (.pointer none)))]⟩, ⟨none, [(some 20, .pick (.t 12) (.c (.bool true)) (.t 19))]⟩] [0, 1, 2, 8, 20])
 (.ite (.t 20)
 (.seq (.rg [⟨none, [(some 6, .mv (.c (.int .i64 0))), (some 7, .mv (.c (.bool false)))]⟩] [6, 7])
 .ret)
 .skip))
 (.seq (.seq (.rg [⟨none, [(some 21, .mv (.t 0)), (some 22, .nilc (.t 21)), (some 23, .fldA (.t 22) 0 0), (some 24, .ld (.t 23) 1 false), (some 25, .mv (.t 1)), (some 26, .mlk (some .i64) (.t 24) (.t 25) (.pointer none) false), (some 27, .nilc (.t 26)), (some 28, .fldA (.t 27) 2 3), (some 29, .ld (.t 28) 1 false), (some 30, .rng (some .i64) (.t 29))]⟩] [0, 2, 8, 30])
 (.block 0 (.loop c_tree_Tree_Lookup_L0)))
 (.seq (.rg [⟨none, [(some 57, .mv (.t 8)), (some 58, .mv (.t 8)), (some 59, .bin .neq (.t 58) (.c (.int .i64 0))), (some 6, .mv (.t 57)), (some 7, .mv (.t 59))]⟩] [6, 7])
 .ret)))))
theorem k_tree_Tree_Lookup : Ok Try.prog 29 c_tree_Tree_Lookup 60 [] [.tmp 6, .tmp 7] := Ok.mk' Try.func29 (by kernel_rfl) (by kernel_rfl) (by kernel_rfl)

abbrev f_law12_begun : Nat := 9
def c_law12_begun : Cd :=
 (.seq (.rg [⟨none, [(some 0, .mv (.c (.bool false)))]⟩] [])
 (.seq (.rg [⟨none, [(some 6, .call 33 []), (some 1, .mv (.t 6))]⟩] [1])
 (.seq (.seq (.rg [⟨none, [(some 7, .mv (.t 1)), (some 8, .eqA false 25 (.t 7) (.c (.pointer none)))]⟩] [1, 8])
 (.ite (.t 8)
 (.seq (.rg [⟨none, [(some 0, .mv (.c (.bool false)))]⟩] [0])
 .ret)
 .skip))
 (.seq (.rg [⟨none, [(some 10, .mv (.t 1)), (some 11, .bld (.c (.c (.s (.int .i64 0)) (.c (.s (.int .i64 0)) .u)) (.c (.s (.int .i64 0)) (.c (.s (.int .i64 0)) (.c (.s (.int .i64 0)) (.c (.s (.string ⟨#[]⟩)) (.c (.s (.string ⟨#[]⟩)) (.c (.s (.string ⟨#[]⟩)) .u))))))) [(1, (.c (.int .i64 1))), (2, (.c (.int .i64 5))), (3, (.c (.int .i64 1))), (4, (.c (.string ⟨#[97]⟩)))]), (some 12, .call 16 [(.t 10), (.t 11)]), (some 9, .mv (.t 12)), (some 13, .ext (.t 9) 0), (some 14, .ext (.t 9) 1), (some 2, .new 41 (.c (.s (.pointer none)) (.c (.s (.int .i64 0)) (.c (.c (.c (.s (.int .i64 0)) (.c (.s (.int .i64 0)) .u)) (.c (.s (.int .i64 0)) (.c (.s (.int .i64 0)) (.c (.s (.int .i64 0)) (.c (.s (.string ⟨#[]⟩)) (.c (.s (.string ⟨#[]⟩)) (.c (.s (.string ⟨#[]⟩)) .u))))))) (.c (.c (.s (.int .i64 0)) (.c (.s (.string ⟨#[]⟩)) .u)) (.c (.s (.string ⟨#[]⟩)) .u)))))), (none, .st (.t 2) (.t 13) 13), (some 3, .mv (.t 14))]⟩] [1, 3])
 (.seq (.rg [⟨none, [(some 16, .mv (.t 1)), (some 17, .call 29 [(.t 16), (.c (.int .i64 1)), (.c (.string ⟨#[97]⟩))]), (some 15, .mv (.t 17)), (some 18, .ext (.t 15) 0), (some 19, .ext (.t 15) 1), (some 4, .mv (.t 18)), (some 5, .mv (.t 19))]⟩] [1, 3, 4, 5])
 (.seq (.rg [⟨none, [(some 20, .mv (.t 3)), (some 21, .mv (.t 20))]⟩, ⟨some (21, true), [(some 22, .mv (.t 5))]⟩, ⟨none, [(some 23, .pick (.t 21) (.t 22) (.c (.bool false))), (some 24, .mv (.t 23))]⟩, ⟨some (24, true), [(some 25, .mv (.t 4)), (some 26, .bin .eql (.t 25) (.c (.int .i64 5)))]⟩, ⟨none, [(some 27, .pick (.t 24) (.t 26) (.c (.bool false))), (some 28, .mv (.t 27))]⟩, ⟨some (28, true), [(some 29, .mv (.t 1)), (some 30, .call 14 [(.t 29)]), (some 31, .bin .eql (.t 30) (.c (.int .i64 3)))]⟩, ⟨none, [(some 32, .pick (.t 28) (.t 31) (.c (.bool false))), (some 0, .mv (.t 32))]⟩] [0])
 .ret))))))
theorem k_law12_begun : Ok Try.prog 9 c_law12_begun 33 [] [.tmp 0] := Ok.mk' Try.func9 (by kernel_rfl) (by kernel_rfl) (by kernel_rfl)

abbrev f_law12_TreeNames : Nat := 3
def c_law12_TreeNames : Cd :=
 (.seq (.rg [⟨none, [(some 2, .mv (.c (.bool false)))]⟩] [0])
 (.seq (.rg [⟨none, [(some 3, .call 9 []), (some 4, .mv (.t 3))]⟩, ⟨some (4, true), [(some 5, .mv (.t 0)), (some 6, .call 10 [(.t 5)]), (some 7, .mv (.t 0)), (some 8, .call 11 [(.t 7)]), (some 9, .eqA false 4 (.t 6) (.t 8))]⟩, ⟨none, [(some 10, .pick (.t 4) (.t 9) (.c (.bool false))), (some 2, .mv (.t 10))]⟩] [2])
 .ret))
theorem k_law12_TreeNames : Ok Try.prog 3 c_law12_TreeNames 11 [] [.tmp 2] := Ok.mk' Try.func3 (by kernel_rfl) (by kernel_rfl) (by kernel_rfl)

end Go.Proofs.Ytdpknchgoeboaaa.Vc

/- A tree's functions that write. -/
set_option linter.unusedVariables false
set_option linter.unusedSimpArgs false
set_option maxRecDepth 100000
namespace Go.Proofs.Ytdpknchgoeboaaa.Vc
open Go Go.Proofs

def PT.put (T : PT) (n : Int) (p : Place) : PT := match T.get n with
  | .none => T
  | some x => ((T.unkid x.parent n).place n p.parent p.name).kid p.parent n

theorem vc_gh_of_ge {C : Ctx} {a : Cd} {Q : QT} {σ τ : SS} (h : Ge σ τ) (hv : vc C a Q τ) : vc C (.gh a) Q σ := fun act w hR => ⟨τ, h.rel hR, hv⟩
theorem get_unkid {T : PT} {k n j : Int} : (T.unkid k n).get j = if j = k then (T.get j).map (fun x => { x with kids := x.kids.erase n }) else T.get j := PT.get_mod _ _ _ _
theorem get_place {T : PT} {n j q : Int} {nm : ByteArray} : (T.place n q nm).get j = if j = n then (T.get j).map (fun x => { x with parent := q, name := nm }) else T.get j := PT.get_mod _ _ _ _
theorem get_kid {T : PT} {k n j : Int} : (T.kid k n).get j = if j = k then (T.get j).map (fun x => { x with kids := putK x.kids n }) else T.get j := PT.get_mod _ _ _ _
theorem has_mod {T : PT} {k j : Int} {f : PN → PN} : ((T.mod k f).get j).isSome = (T.get j).isSome := by
  rw [PT.get_mod]
  split <;> simp

theorem kn_m {C : Ctx} {ph : List PH} {m : PH} : KN C.u0 (m :: ph) m := KN.mem (by simp)

theorem put_spec (w : World) (m : PH) (L : Lay) (T : PT) (n : Int) (p : Place) (x : PN) (hx : T.get n = some x) (hT : TM m L T) :
    Spec Try.prog f_tree_Tree_put [ptr (L .t), .int .i64 n, (gPlace p).val] m w fun rs m' => rs = [] ∧ TM m' L (T.put n p) := by
  refine spec_of k_tree_Tree_put [.g (.s (ptr (L .t))), .g (.s (.int .i64 n)), .g (gPlace p)] (by simp) (by simp [AV.ok, GV.ok, Value.oneCell', ptr, gPlace_ok]) ?_
  rw [PT.put, hx]
  simp only
  have rest : ∀ (m1 : PH) (T1 : PT) (x1 : PN), TM m1 L T1 → T1.get n = some x1 → ∀ σ : SS, Ge σ ⟨[(0, .g (.s (.pointer (some ⟨L .t, 0, none⟩)))), (1, .g (.s (.int .i64 (n)))), (5, .ref 5 [])], [(5, .box (gPlace p))], [], m1⟩ →
      vc ⟨Try.prog, 53, w, m⟩ c_tree_Tree_put_R4 (finQ ⟨Try.prog, 53, w, m⟩ [] fun rs m' => rs = [] ∧ TM m' L ((T1.place n p.parent p.name).kid p.parent n)) σ := by
    intro m1 T1 x1 hT1 hx1 σ hσ
    unfold c_tree_Tree_put_R4
    rw [vc_seq]
    refine vc_gh_of_ge hσ ?_
    simp (maxSteps := 2000000) only [vc_rgq, qsegs_n, qops_cons, vcqOp, vcOp, isRd, ev, look, put_mk, ↓reduceIte, Nat.add_zero, Bool.true_and, true_and]
    refine ld_of _ (hT1.s_map kn_m) rfl ?_
    simp (maxSteps := 2000000) only [qops_cons, vcqOp, vcOp, isRd, ev, look, put_mk, Nat.reduceEqDiff, ↓reduceIte, reduceCtorEq, Bool.true_and, true_and]
    refine hT1.lk kn_m n ?_
    rw [hx1]
    simp (maxSteps := 2000000) only [segs_n, ops_cons, qsegs_nil, qops_nil, qops_cons, vcqOp, vcOp, isRd, ev, look, put_mk, Nat.reduceEqDiff, ↓reduceIte, reduceCtorEq, Nat.add_zero, Bool.true_and, true_and, getT_nil, gPlace_fits, nptr_some]
    refine hT1.place hx1 fun m2 hT2 => ?_
    simp (maxSteps := 2000000) only [vc_seq, vc_rgq, thenQ_n, kKeep_eq, segs_nil, ops_nil, qsegs_n, qops_cons, vcqOp, vcOp, isRd, ev, look, put_mk, put_mk0, keep_mk, keepL, Nat.reduceEqDiff, ↓reduceIte, reduceCtorEq, Nat.add_zero, Bool.true_and, true_and]
    refine ld_of _ (hT2.s_map kn_m) rfl ?_
    simp (maxSteps := 2000000) only [segs_n, ops_cons, qsegs_nil, qops_nil, qops_cons, vcqOp, vcOp, isRd, ev, look, put_mk, GV.getT, Nat.reduceEqDiff, ↓reduceIte, reduceCtorEq, List.nil_append, Bool.true_and, Bool.not_false, true_and, getT_nil, fits_s, gPlace_fld0, gPlace_get0]
    refine hT2.lk kn_m _ ?_
    simp (maxSteps := 2000000) only [vc_seq, vc_rg, thenQ_n, kKeep_eq, segs_nil, segs_n, ops_nil, ops_cons, vcOp, ev, look, put_mk, keep_mk, keepL, Value.oneCell', cond_true, Nat.reduceEqDiff, ↓reduceIte, reduceCtorEq]
    cases hq : (T1.place n p.parent p.name).get p.parent with
    | none =>
      simp (maxSteps := 2000000) only [nptr_none]
      refine eq_of eqNode0 ?_
      simp (maxSteps := 2000000) only [vc_skip, vc_ite, thenQ_n, kKeep_eq, finQ_n, segs_nil, ops_nil, ev, look, put_mk, keep_mk, keepL, Nat.reduceEqDiff, ↓reduceIte, Bool.not_true, ↓br_ft, Bool.bne_true]
      refine fin_m _ rfl (fun _ _ h => h) ⟨rfl, ?_⟩
      rw [PT.kid, mod_none hq]
      exact hT2
    | some y =>
      simp (maxSteps := 2000000) only [nptr_some]
      refine eq_of (eqNode _) ?_
      simp (maxSteps := 2000000) only [vc_rg, vc_ite, thenQ_n, kKeep_eq, segs_nil, segs_n, ops_nil, ops_cons, vcOp, ev, look, put_mk, keep_mk, keepL, Nat.reduceEqDiff, ↓reduceIte, Nat.zero_add, Bool.not_false, ↓br_tt, Bool.bne_true]
      refine ld_of _ (hT2.s_node kn_m hq).2.2.2.1 rfl ?_
      simp (maxSteps := 2000000) only [ops_cons, vcOp, ev, look, put_mk, Value.oneCell', cond_true, Nat.reduceEqDiff, ↓reduceIte]
      refine hT2.kid hq fun m3 hT3 => ?_
      simp (maxSteps := 2000000) only [kKeep_eq, finQ_n, segs_nil, ops_nil, put_mk0, keep_mk, keepL]
      exact fin_m _ rfl (fun _ _ h => h) ⟨rfl, hT3⟩
  simp (maxSteps := 2000000) only [c_tree_Tree_put, vc_seq, vc_rg, vc_rgq, thenQ_n, kKeep_eq, segs_nil, segs_n, ops_nil, ops_cons, qsegs_n, qops_cons, vcqOp, vcOp, isRd, ev, look, updL, put_mk, keep_mk, keepL, Nat.reduceEqDiff, Nat.reduceAdd, ↓reduceIte, reduceCtorEq, Nat.zero_add, Nat.add_zero, Bool.true_and, true_and, initF, initP, Int.reduceAdd, ptr]
  refine ld_of _ (hT.s_map kn_m) rfl ?_
  simp (maxSteps := 2000000) only [qops_cons, vcqOp, vcOp, isRd, ev, look, put_mk, ↓reduceIte, reduceCtorEq, Nat.add_zero, Bool.true_and, true_and]
  refine ld_of _ (hT.s_map kn_m) rfl ?_
  simp (maxSteps := 2000000) only [qops_cons, vcqOp, vcOp, isRd, ev, look, put_mk, Nat.reduceEqDiff, ↓reduceIte, reduceCtorEq, Bool.true_and, true_and]
  refine hT.lk kn_m n ?_
  rw [hx]
  simp (maxSteps := 2000000) only [qops_cons, vcqOp, vcOp, isRd, ev, look, put_mk, ↓reduceIte, Nat.add_zero, Bool.true_and, true_and, nptr_some]
  refine ld_of _ (hT.s_node kn_m hx).1 rfl ?_
  simp (maxSteps := 2000000) only [segs_n, ops_cons, qsegs_nil, qops_nil, vcOp, ev, look, put_mk, Nat.reduceEqDiff, ↓reduceIte]
  refine hT.lk kn_m _ ?_
  simp (maxSteps := 2000000) only [vc_seq, vc_rg, thenQ_n, kKeep_eq, segs_nil, segs_n, ops_nil, ops_cons, vcOp, ev, look, put_mk, keep_mk, keepL, Value.oneCell', cond_true, Nat.reduceEqDiff, ↓reduceIte, reduceCtorEq]
  cases hq : T.get x.parent with
  | none =>
    simp (maxSteps := 2000000) only [nptr_none]
    refine eq_of eqNode0 ?_
    simp (maxSteps := 2000000) only [vc_skip, vc_ite, thenQ_n, kKeep_eq, segs_nil, ops_nil, ev, look, put_mk, keep_mk, keepL, Nat.reduceEqDiff, ↓reduceIte, reduceCtorEq, Bool.not_true, ↓br_ft, Bool.bne_true]
    rw [show T.unkid x.parent n = T from mod_none hq]
    refine rest m T x hT hx _ (ge_of ?_ ?_ rfl rfl rfl)
    · simp [frIn, look]
    · simp [pvIn, look]
  | some y =>
    simp (maxSteps := 2000000) only [nptr_some]
    refine eq_of (eqNode _) ?_
    simp (maxSteps := 2000000) only [vc_rg, vc_ite, thenQ_n, kKeep_eq, segs_nil, segs_n, ops_nil, ops_cons, vcOp, ev, look, put_mk, keep_mk, keepL, Nat.reduceEqDiff, ↓reduceIte, reduceCtorEq, Nat.zero_add, Bool.not_false, ↓br_tt, Bool.bne_true]
    refine ld_of _ (hT.s_node kn_m hq).2.2.2.1 rfl ?_
    simp (maxSteps := 2000000) only [ops_cons, vcOp, ev, look, put_mk, Nat.reduceEqDiff, ↓reduceIte, reduceCtorEq]
    refine hT.unkid hq fun m2 hT2 => ?_
    simp (maxSteps := 2000000) only [thenQ_n, kKeep_eq, segs_nil, ops_nil, look, put_mk0, keep_mk, keepL, Nat.reduceEqDiff, ↓reduceIte, reduceCtorEq]
    obtain ⟨x1, hx1⟩ : ∃ x1, (T.unkid x.parent n).get n = some x1 := by rw [get_unkid, hx]; split <;> exact ⟨_, rfl⟩
    refine rest m2 _ x1 hT2 hx1 _ (ge_of ?_ ?_ rfl rfl rfl)
    · simp [frIn, look]
    · simp [pvIn, look]

/-- An attribute. -/
theorem attr_spec (w : World) (m : PH) (L : Lay) (T : PT) (n : Int) (key value : ByteArray) (x : PN) (hx : T.get n = some x) (hT : TM m L T) :
    Spec Try.prog f_tree_node_attr [ptr (L (.nd n)), .string key, .string value] m w fun rs m' => rs = [] ∧ TM m' L (T.attr n key value) := by
  refine spec_of k_tree_node_attr [.g (.s (ptr (L (.nd n)))), .g (.s (.string key)), .g (.s (.string value))] (by simp) (by simp [AV.ok, GV.ok, Value.oneCell', ptr]) ?_
  simp (maxSteps := 2000000) only [c_tree_node_attr, vc_seq, vc_rg, vc_ite, thenQ_n, kKeep_eq, segs_nil, segs_n, ops_nil, ops_cons, vcOp, ev, look, put_mk, keep_mk, keepL, binV, binC, Value.oneCell', cond_true, Nat.reduceEqDiff, Nat.reduceAdd, ↓reduceIte, reduceCtorEq, Nat.zero_add, Bool.true_and, true_and, initF, initP, Int.reduceAdd, decide_eq_true_eq, decide_eq_false_iff_not, br_t, ptr]
  refine ⟨fun hv => ?_, fun hv => ?_⟩
  · subst hv
    refine ld_of _ (hT.s_node kn_m hx).2.2.1 rfl ?_
    simp (maxSteps := 2000000) only [ops_cons, vcOp, ev, look, put_mk, Nat.reduceEqDiff, ↓reduceIte, reduceCtorEq, decide_true]
    refine hT.attrDel hx fun m2 hT2 => ?_
    simp (maxSteps := 2000000) only [kKeep_eq, finQ_n, segs_nil, ops_nil, put_mk0, keep_mk, keepL]
    exact fin_m _ rfl (fun _ _ h => h) ⟨rfl, hT2⟩
  · refine ld_of _ (hT.s_node kn_m hx).2.2.1 rfl ?_
    simp (maxSteps := 2000000) only [ops_cons, vcOp, ev, look, put_mk, Nat.reduceEqDiff, ↓reduceIte, reduceCtorEq]
    refine hT.attrPut hv hx fun m2 hT2 => ?_
    simp (maxSteps := 2000000) only [kKeep_eq, finQ_n, segs_nil, ops_nil, put_mk0, keep_mk, keepL]
    exact fin_m _ rfl (fun _ _ h => h) ⟨rfl, hT2⟩
end Go.Proofs.Ytdpknchgoeboaaa.Vc

/- What a tree does. -/
set_option linter.unusedVariables false
set_option linter.unusedSimpArgs false
set_option maxRecDepth 100000
namespace Go.Proofs.Ytdpknchgoeboaaa.Vc
open Go Go.Proofs

theorem TreeM.setLast {e : TypeId} {σ : SS} {L : Lay} {T : PT} {d : Option Nat} {K : KT} {n : Int} (h : TreeM e σ.m L T) (hK : ∀ m', TreeM e m' L { T with last := n } → K ({ σ with m := m' }.put d .no)) : stK σ (L .t) 4 1 (.s (.int .i64 n)) d K := by
  obtain ⟨mi, mt, idsV, hm, hd, hi, ht⟩ := h
  obtain ⟨o, h1, e', rfl⟩ := ht.has .t trivial trivial
  obtain ⟨h2, h3⟩ := uni_r hd h1
  refine st_of rfl _ e' ⟨by rw [hm]; exact h2, by simp⟩ (hK _ ?_)
  rw [hm, uni_upd h3]
  refine ⟨mi, _, idsV, rfl, dis_upd hd h3, hi, ⟨fun s _ hs => ?_, fun a b _ _ ha hb => ht.sep a b trivial trivial ha hb, ht.nod⟩⟩
  by_cases hst : s = .t
  · subst hst
    exact ⟨_, upd_self _ _ _, e', rfl⟩
  · obtain ⟨o2, g1, g2⟩ := ht.has s trivial hs
    refine ⟨o2, by rw [upd_ne (fun q => hst (ht.sep s .t trivial trivial hs trivial q))]; exact g1, ?_⟩
    cases s with
    | t => exact absurd rfl hst
    | nb => exact g2
    | mk => trivial
    | nd k => exact g2
    | ab k => exact g2
    | kb k => exact g2

theorem kn_uni {u0 : PH} {L : List PH} {a b : PH} (h : dis a b) : KN u0 (uni a b :: L) b := fun j o hj => .inr ⟨_, by simp, sub_uni_r h j o hj⟩

/-- Another list of what was done. -/
theorem TreeM.setIds {e : TypeId} {σ : SS} {L : Lay} {T : PT} {d : Option Nat} {K : KT} {mt ui : PH} {idsV v : Value} {ids : List Int} (hm : σ.m = uni ui mt) (hd : dis ui mt) (ht : TreeT (fun _ => True) mt L T idsV) (hv : SlO ui v e 1 (ids.map gi))
    (hK : ∀ m', TreeM e m' L { T with ids := ids } → K ({ σ with m := m' }.put d .no)) : stK σ (L .t) 3 1 (.s v) d K := by
  obtain ⟨o, h1, e', rfl⟩ := ht.has .t trivial trivial
  obtain ⟨h2, h3⟩ := uni_r hd h1
  refine st_of rfl _ e' ⟨by rw [hm]; exact h2, by simp⟩ (hK _ ?_)
  rw [hm, uni_upd h3]
  refine ⟨ui, _, v, rfl, dis_upd hd h3, hv, ⟨fun s _ hs => ?_, fun a b _ _ ha hb => ht.sep a b trivial trivial ha hb, ht.nod⟩⟩
  by_cases hst : s = .t
  · subst hst
    exact ⟨_, upd_self _ _ _, e', rfl⟩
  · obtain ⟨o2, g1, g2⟩ := ht.has s trivial hs
    refine ⟨o2, by rw [upd_ne (fun q => hst (ht.sep s .t trivial trivial hs trivial q))]; exact g1, ?_⟩
    cases s with
    | t => exact absurd rfl hst
    | nb => exact g2
    | mk => trivial
    | nd k => exact g2
    | ab k => exact g2
    | kb k => exact g2

theorem TreeM.mupAdd {e : TypeId} {σ : SS} {L : Lay} {T : PT} {d : Option Nat} {K : KT} {n : Int} {m mb : PH} {b a k : Nat} (h : TreeM e m L T) (hb : BareM mb b a k) (hd : dis mb m) (hn : T.get n = none) (hm : σ.m = uni mb m)
    (hK : ∀ m', TreeM e m' (L.add n b a k) (T.add n) → K ({ σ with m := m' }.put d .no)) : mupK (some .i64) (L .nb) (.int .i64 n) (.pointer (some ⟨b, 0, none⟩)) d K σ := by
  obtain ⟨o, idsV, h1, h2⟩ := h.at .nb trivial
  refine ⟨o, _, by rw [hm]; exact (uni_r hd h1).1, h2, rfl, fun o' ho' => ?_⟩
  rw [hm]
  exact hK _ (h.add hb hd hn ho')

theorem put_ids (T : PT) (n : Int) (p : Place) : (T.put n p).ids = T.ids := by
  unfold PT.put
  cases T.get n <;> rfl
/-- A call that has all of one's memory. -/
theorem call_all {C : Ctx} {σ : SS} {f : Nat} {args : List Opd} {d : Option Nat} {K : KT} {svs : List SV} {Q : List GV → PH → Prop} (hd : dOk d C.N = true) (ha : evL σ args = some svs)
    (hs : ∀ w vs, ArgsV C σ w svs vs → C.u0.le w → (∀ u ∈ σ.ph, u.le w) → Spec C.P f vs σ.m w Q) (hK : ∀ rs m', (∀ r ∈ rs, r.ok) → Q rs m' → K ({ σ with m := m' }.put d (retS rs))) : vcCall C f args d K σ :=
  call_with σ.m PH.no (dOk_spec hd) ha (uni_no_r _).symm (dis_no_r _) hs fun rs m' h1 h2 _ => by rw [uni_no_r]; exact hK rs m' h1 h2

theorem TreeM.lkA {C : Ctx} {e : TypeId} {u : PH} {σ : SS} {L : Lay} {T : PT} {d : Option Nat} {K : KT} {k : Int} {x : PN} {key : ByteArray} (h : TreeM e u L T) (hk : KN C.u0 (σ.m :: σ.ph) u) (hx : T.get k = some x)
    (hK : K (σ.put d (.g (.s (.string ((getS x.attrs key).getD ⟨#[]⟩)))))) : mlkK C none (L (.ab k)) (.string key) (.string ⟨#[]⟩) false d K σ := by
  obtain ⟨o, h1, h2⟩ := h.s_attrs hk hx
  refine ⟨o, _, h1, h2, trivial, ?_⟩
  unfold lkS
  rw [mget_rawA]
  cases hg : getS x.attrs key with
  | none => rw [hg] at hK; exact hK
  | some y => rw [hg] at hK; exact hK

/-- What an operation makes of a tree, ahead of its number's keeping; what tells how it is taken back. -/
def PT.acts (T : PT) (op : Op) : PT :=
  if op.kind = 1 then (T.add op.node).put op.node ⟨op.parent, op.name⟩
  else if op.kind = 2 then T.put op.node ⟨op.parent, op.name⟩
  else T.attr op.node op.key op.value
def PT.undo (T : PT) (mk : Value) (op : Op) : Undo :=
  match T.get op.node with
  | .none => ⟨mk, T.last + 1, op, zPlace, ⟨#[]⟩⟩
  | some x => if op.kind = 1 then ⟨mk, T.last + 1, op, zPlace, ⟨#[]⟩⟩ else if op.kind = 2 then ⟨mk, T.last + 1, op, ⟨x.parent, x.name⟩, ⟨#[]⟩⟩ else ⟨mk, T.last + 1, op, zPlace, (getS x.attrs op.key).getD ⟨#[]⟩⟩
def PT.does (T : PT) (op : Op) : PT := { ({ T with last := T.last + 1 } : PT).acts op with ids := T.ids ++ [T.last + 1] }
def PT.fits (T : PT) : Prop := T.nodes.length < 4611686018427387904 ∧ 0 ≤ T.last ∧ T.last < 4611686018427387904 ∧ T.ids.length < 1099511627776

theorem Do_spec (w : World) (m : PH) (L : Lay) (T : PT) (op : Op) (hb : op.name.size ≤ 140737488355328) (hf : T.fits) (hT : TM m L T) :
    Spec Try.prog f_tree_Tree_Do [ptr (L .t), (gOp op).val] m w fun rs m' =>
      (mayA T op = false → rs = [gUndo zUndo, .s (.bool false)] ∧ TM m' L T) ∧
      (mayA T op = true → ∃ L', L' .t = L .t ∧ L' .mk = L .mk ∧ rs = [gUndo (T.undo (ptr (L .mk)) op), .s (.bool true)] ∧ TM m' L' (T.does op)) := by
  refine spec_of k_tree_Tree_Do [.g (.s (ptr (L .t))), .g (gOp op)] (by simp) (by simp [AV.ok, GV.ok, Value.oneCell', ptr, gOp_ok]) ?_
  simp (maxSteps := 2000000) only [c_tree_Tree_Do, vc_seq, vc_rg, thenQ_n, kKeep_eq, segs_nil, segs_n, ops_nil, ops_cons, vcOp, ev, look, updL, put_mk, keep_mk, keepL, Value.oneCell', cond_true, Nat.reduceEqDiff, ↓reduceIte, reduceCtorEq, Nat.zero_add, Bool.true_and, true_and, initF, initP, getT_nil, gStamp_zero, gOp_fits, gOp_zero, gPlace_zero, gUndo_zero, ptr]
  obtain ⟨hf1, hf2, hf3, hf4⟩ := hf
  refine call_ism _ [.s (.bool (mayA T op))] rfl rfl (fun w' vs hv _ _ hm => ?_) ?_
  · obtain ⟨vs, rfl, _, hv⟩ := argsV_g hv
    obtain ⟨vs, rfl, _, hv⟩ := argsV_g hv
    obtain rfl := argsV_nil hv
    exact May_spec hm hT op (by omega) hb
  simp (maxSteps := 2000000) only [retS, vc_skip, vc_ret, vc_seq, vc_rg, vc_ite, thenQ_n, thenQ_r, kKeep_eq, finQ_r, segs_nil, segs_n, ops_nil, ops_cons, vcOp, ev, evL, gvL, look, updL, put_mk, put_mk0, keep_mk, keepL, unV, Value.oneCell', cond_true, Nat.reduceEqDiff, ↓reduceIte, reduceCtorEq, Nat.zero_add, Bool.and_true, Bool.true_and, true_and, and_true, List.map_nil, br_t, GV.bldT, GV.bldC, getT_nil, setT_nil, gUndo_sz, gUndo_same]
  cases hmay : mayA T op with
  | false =>
    simp (maxSteps := 2000000) only [Bool.and_true, Bool.not_false, and_true, true_imp_iff, false_imp_iff, Bool.true_eq_false, Bool.false_eq_true]
    exact fin_m m rfl (fun _ _ h => h) ⟨rfl, hT⟩
  | true =>
    simp (maxSteps := 2000000) only [Bool.true_and, Bool.not_true, true_and, true_imp_iff, false_imp_iff, Bool.true_eq_false, Bool.false_eq_true]
    have tail : ∀ (m2 : PH) (L' : Lay) (T2 : PT) (U : Undo), L' .t = L .t → L' .mk = L .mk → TM m2 L' T2 → T2.ids = T.ids → U.ix = T.last + 1 → U.of.oneCell' = true → T.undo (ptr (L .mk)) op = U → ({ T2 with ids := T.ids ++ [T.last + 1] } : PT) = T.does op →
        ∀ σ : SS, Ge σ ⟨[(0, .g (.s (.pointer (some ⟨L' .t, 0, none⟩)))), (4, .ref 4 []), (6, .ref 6 [])], [(4, .box (gUndo zUndo)), (6, .box (gUndo U))], [], m2⟩ →
        vc ⟨Try.prog, 109, w, m⟩ c_tree_Tree_Do_R14 (finQ ⟨Try.prog, 109, w, m⟩ [.cell 4 13 true, .tmp 5] fun rs m' => ∃ L', L' .t = L .t ∧ L' .mk = L .mk ∧ rs = [gUndo (T.undo (.pointer (some ⟨L .mk, 0, none⟩)) op), .s (.bool true)] ∧ TM m' L' (T.does op)) σ := by
      intro m2 L' T2 U hL1 hL2 hT2 hids hix hof hU hdoes σ hσ
      obtain ⟨mi, mt, idsV, hm2, hd, hi, ht⟩ := hT2
      have hidsS : Seen ⟨Try.prog, 109, w, m⟩ [] m2 (L' .t) 3 (.s idsV) := by
        obtain ⟨o, h1, e', rfl⟩ := ht.has .t trivial trivial
        refine seen_cell (u := m2) kn_m (by rw [hm2]; exact (uni_r hd h1).1) rfl ?_
        rcases hi.2 with ⟨rfl, _⟩ | ⟨ad, c, rfl, _⟩ <;> rfl
      unfold c_tree_Tree_Do_R14
      rw [vc_seq]
      refine vc_gh_of_ge hσ ?_
      simp (maxSteps := 2000000) only [vc_rga, segs_nil, segs_n, ops_nil, ops_cons, ot_op, ot_or, vcOp, ev, evL, gvL, look, updL, put_mk, GV.getT, GV.sz, Nat.reduceEqDiff, ↓reduceIte, reduceCtorEq, List.nil_append, Nat.zero_add, Bool.and_true, Bool.true_and, Bool.not_false, true_and, and_true, Option.map_some, szAll, List.length_cons, List.length_nil, getT_nil, fits_s, gUndo_fld1, gUndo_get1]
      refine ⟨ld_of _ hidsS rfl ?_, ld_of _ hidsS rfl ?_, ld_of _ hidsS rfl ?_⟩
      all_goals
        simp (maxSteps := 2000000) only [segs_nil, segs_n, ops_nil, ops_cons, ot_op, vcOp, ev, evL, gvL, look, updL, put_mk, rowE, GV.getT, GV.sz, Nat.reduceEqDiff, ↓reduceIte, Nat.zero_add, Bool.and_true, Bool.true_and, Bool.not_false, true_and, and_true, Option.map_some, szAll, List.length_cons, List.length_nil, List.drop_zero, List.take_succ_cons, List.take_zero, fits_s, gUndo_get1]
        refine app_of rfl rfl mi mt (T2.ids.map gi) hi hm2 hd (by simp only [List.length_map, hids, List.length_cons, List.length_nil]; omega) fun v' u' hv' hs' hd' => ?_
        simp (maxSteps := 2000000) only [segs_nil, segs_n, ops_nil, ops_cons, ot_op, vcOp, ev, look, put_mk, Nat.reduceEqDiff, ↓reduceIte, Nat.zero_add]
        refine TreeM.setIds (ids := T.ids ++ [T.last + 1]) rfl hd' ht (by rw [← hids, ← hix, List.map_append]; exact hs') fun m3 hT3 => ?_
        simp (maxSteps := 2000000) only [vc_ret, vc_seq, vc_rg, thenQ_n, kKeep_eq, finQ_r, segs_nil, segs_n, ops_nil, ops_cons, ot_done, vcOp, ev, look, updL, put_mk, put_mk0, keep_mk, keepL, Value.oneCell', cond_true, Nat.reduceEqDiff, ↓reduceIte, reduceCtorEq, Bool.and_true, Bool.true_and, true_and, and_true, getT_nil, setT_nil, gUndo_sz, gUndo_fits, gUndo_same]
        exact fin_m (rs := [gUndo U, .s (.bool true)]) _ rfl (fun _ _ h => h) ⟨L', hL1, hL2, by rw [← hU]; rfl, by rw [← hdoes]; exact hT3⟩
    refine ld_of _ (hT.s_last kn_m) rfl ?_
    simp (maxSteps := 2000000) only [ops_cons, vcOp, ev, look, put_mk, binV, binC, Value.oneCell', cond_true, Nat.reduceEqDiff, ↓reduceIte, Nat.zero_add, Bool.true_and, true_and]
    rw [wrap64 (by omega) (by omega)]
    refine hT.setLast fun m1 hT1 => ?_
    simp (maxSteps := 2000000) only [vc_seq, vc_block, vc_rg, vc_rgq, vc_rga, vc_ite, thenQ_n, kKeep_eq, segs_nil, segs_n, ops_nil, ops_cons, qsegs_n, qops_cons, ot_op, ot_or, ot_held, oh_done, oh_op, oh_first, heldC_eq, heldF_eq, heldOk, heldK, ldH, heldM_self, List.contains_cons, List.contains_nil, Bool.or_false, vcqOp, vcOp, isRd, ev, evL, gvL, look, updL, put_mk, put_mk0, keep_mk, keepL, binV, binC, GV.getT, Value.oneCell', cond_true, Nat.reduceEqDiff, ↓reduceIte, reduceCtorEq, List.nil_append, Nat.zero_add, Nat.add_zero, Bool.and_true, Bool.true_and, Bool.not_false, BEq.rfl, true_and, and_true, List.map_cons, List.map_nil, Option.map_some, br_t, GV.bldT, GV.bldC, getT_nil, setT_nil, fits_s, gOp_fits, gOp_fld1, gOp_get1, gOp_fld2, gOp_get2, gUndo_get0]
    refine ⟨_, hT1.s_mark kn_m, rfl, _, hT1.s_last kn_m, rfl, ?_⟩
    simp (maxSteps := 2000000) only [GV.getT, GV.same, Bool.and_true, Bool.true_and, true_and, and_true, same_int, getT_nil, gOp_same, gUndo_sz, gUndo_same, gUndo_set0, gUndo_get1, gUndo_set1, gUndo_get2, gUndo_set2, ptr]
    refine ⟨⟨rfl, rfl, rfl⟩, fun k1 => ?_, fun k1 => ⟨fun k2 => ?_, fun k2 => ?_⟩⟩
    · rw [beq_iff_eq] at k1
      have hnone : T.get op.node = none := by
        rw [mayA, if_pos k1] at hmay
        simp only [Bool.and_eq_true, Bool.not_eq_true', PT.has] at hmay
        exact Option.isNone_iff_eq_none.1 (by rw [← Option.not_isSome, hmay.1.1.2]; rfl)
      repeat' (first
        | (refine ld_of _ (hT1.s_map kn_m) rfl ?_; simp (maxSteps := 2000000) only [segs_nil, segs_n, ops_nil, ops_cons, ot_op, ot_or, vcOp, ev, look, put_mk, GV.getT, Nat.reduceEqDiff, ↓reduceIte, Bool.true_and, Bool.not_false, true_and, fits_s, gOp_get2])
        | (refine ld_of _ (hT1.s_map (kn_uni hdb)) rfl ?_; simp (maxSteps := 2000000) only [segs_nil, segs_n, ops_nil, ops_cons, ot_op, vcOp, ev, look, put_mk, GV.getT, Nat.reduceEqDiff, ↓reduceIte, Bool.true_and, Bool.not_false, true_and, fits_s, gOp_get2])
        | (refine call_ownm rfl rfl (Q := fun rs m' => ∃ b a k, rs = [.s (ptr b)] ∧ BareM m' b a k) (fun w' vs hv hw _ _ => by obtain rfl := argsV_nil hv; exact bare_spec w') fun rs mb _ hq hdb => ?_; obtain ⟨b, a, k, rfl, hbm⟩ := hq; simp (maxSteps := 2000000) only [retS, segs_nil, segs_n, ops_nil, ops_cons, ot_op, ot_or, vcOp, ev, look, put_mk, GV.getT, Nat.reduceEqDiff, ↓reduceIte, Bool.true_and, Bool.not_false, true_and, fits_s, gOp_get2, ptr])
        | refine And.intro ?_ ?_)
      all_goals
        refine hT1.mupAdd hbm hdb hnone rfl fun m3 hT3 => ?_
        simp (maxSteps := 2000000) only [vc_rg, thenQ_n, kKeep_eq, segs_nil, segs_n, ops_nil, ops_cons, ot_done, vcOp, ev, evL, gvL, look, put_mk, put_mk0, keep_mk, keepL, GV.getT, GV.same, Nat.reduceEqDiff, ↓reduceIte, reduceCtorEq, List.nil_append, Bool.and_true, Bool.true_and, Bool.not_false, true_and, and_true, List.map_cons, List.map_nil, Option.map_some, GV.bldT, GV.bldC, same_int, getT_nil, fits_s, gOp_fld2, gOp_get2, gOp_fld3, gOp_get3, gOp_fld4, gOp_get4, gPlace_get0, gPlace_set0, gPlace_get1, gPlace_set1]
        refine ⟨⟨rfl, rfl⟩, ?_⟩
        refine call_all (Q := fun rs m' => rs = [] ∧ TM m' (L.add op.node b a k) ((({ T with last := T.last + 1 } : PT).add op.node).put op.node ⟨op.parent, op.name⟩)) rfl rfl (fun w' vs hv hw _ => ?_) fun rs m4 _ hq => ?_
        · obtain ⟨vs, rfl, _, hv⟩ := argsV_g hv
          obtain ⟨vs, rfl, _, hv⟩ := argsV_g hv
          obtain ⟨vs, rfl, _, hv⟩ := argsV_g hv
          obtain rfl := argsV_nil hv
          exact put_spec w' m3 (L.add op.node b a k) _ op.node ⟨op.parent, op.name⟩ PN.bare (by rw [PT.get_add (T := { T with last := T.last + 1 }) hnone, if_pos rfl]) hT3
        obtain ⟨rfl, hT4⟩ := hq
        simp (maxSteps := 2000000) only [retS, thenQ_n, blockQ_n, kKeep_eq, segs_nil, ops_nil, look, put_mk, keep_mk, keepL, Nat.reduceEqDiff, ↓reduceIte, reduceCtorEq]
        refine tail m4 (L.add op.node b a k) _ ⟨ptr (L .mk), T.last + 1, op, zPlace, ⟨#[]⟩⟩ rfl rfl hT4 ?_ rfl rfl ?_ ?_ _ (ge_of ?_ ?_ rfl rfl rfl)
        · rw [put_ids]; rfl
        · rw [PT.undo, hnone]
        · rw [PT.does, PT.acts, if_pos k1]
        · simp [frIn, look, Lay.add]
        · simp [pvIn, look]; rfl
    · rw [beq_eq_false_iff_ne] at k1
      rw [beq_iff_eq] at k2
      obtain ⟨x, hx⟩ : ∃ x, T.get op.node = some x := by
        rw [mayA, if_neg k1, if_pos k2] at hmay
        simp only [Bool.and_eq_true, PT.has] at hmay
        exact Option.isSome_iff_exists.1 hmay.1.1.1.1
      refine ld_of _ (hT1.s_map kn_m) rfl ?_
      simp (maxSteps := 2000000) only [segs_n, ops_cons, qsegs_nil, qops_nil, qops_cons, vcqOp, vcOp, isRd, ev, look, put_mk, GV.getT, Nat.reduceEqDiff, ↓reduceIte, reduceCtorEq, List.nil_append, Bool.true_and, Bool.not_false, true_and, getT_nil, fits_s, gOp_fld2, gOp_get2]
      refine hT1.lk kn_m _ ?_
      rw [show ({ T with last := T.last + 1 } : PT).get op.node = some x from hx]
      simp (maxSteps := 2000000) only [ops_cons, vcOp, ev, look, put_mk, ↓reduceIte, Nat.add_zero, nptr_some]
      refine ld_of _ (hT1.s_node kn_m hx).2.2.2.2 (gPlace_fits _) ?_
      simp (maxSteps := 2000000) only [vc_rg, thenQ_n, kKeep_eq, segs_nil, segs_n, ops_nil, ops_cons, vcOp, ev, evL, gvL, look, updL, put_mk, put_mk0, keep_mk, keepL, GV.getT, GV.same, Nat.reduceEqDiff, ↓reduceIte, reduceCtorEq, List.nil_append, Bool.and_true, Bool.true_and, Bool.not_false, true_and, and_true, List.map_cons, List.map_nil, Option.map_some, GV.bldT, GV.bldC, same_int, getT_nil, fits_s, gOp_fld2, gOp_get2, gOp_fld3, gOp_get3, gOp_fld4, gOp_get4, gPlace_sz, gPlace_same, gPlace_get0, gPlace_set0, gPlace_get1, gPlace_set1, gUndo_fld3, gUndo_get3, gUndo_set3]
      refine ⟨⟨rfl, rfl⟩, ?_⟩
      refine call_all (Q := fun rs m' => rs = [] ∧ TM m' L (({ T with last := T.last + 1 } : PT).put op.node ⟨op.parent, op.name⟩)) rfl rfl (fun w' vs hv hw _ => ?_) fun rs m4 _ hq => ?_
      · obtain ⟨vs, rfl, _, hv⟩ := argsV_g hv
        obtain ⟨vs, rfl, _, hv⟩ := argsV_g hv
        obtain ⟨vs, rfl, _, hv⟩ := argsV_g hv
        obtain rfl := argsV_nil hv
        exact put_spec w' m1 L _ op.node ⟨op.parent, op.name⟩ x hx hT1
      obtain ⟨rfl, hT4⟩ := hq
      simp (maxSteps := 2000000) only [retS, thenQ_n, blockQ_n, kKeep_eq, segs_nil, ops_nil, look, put_mk, keep_mk, keepL, Nat.reduceEqDiff, ↓reduceIte, reduceCtorEq]
      refine tail m4 L _ ⟨ptr (L .mk), T.last + 1, op, ⟨x.parent, x.name⟩, ⟨#[]⟩⟩ rfl rfl hT4 ?_ rfl rfl ?_ ?_ _ (ge_of ?_ ?_ rfl rfl rfl)
      · rw [put_ids]
      · rw [PT.undo, hx]; simp only; rw [if_neg k1, if_pos k2]
      · rw [PT.does, PT.acts, if_neg k1, if_pos k2]
      · simp [frIn, look]
      · simp [pvIn, look]; rfl
    · rw [beq_eq_false_iff_ne] at k1 k2
      obtain ⟨x, hx⟩ : ∃ x, T.get op.node = some x := by
        rw [mayA, if_neg k1, if_neg k2] at hmay
        split at hmay
        · simp only [Bool.and_eq_true, PT.has] at hmay
          exact Option.isSome_iff_exists.1 hmay.1
        · cases hmay
      refine ld_of _ (hT1.s_map kn_m) rfl ?_
      simp (maxSteps := 2000000) only [qops_cons, vcqOp, vcOp, isRd, ev, look, put_mk, GV.getT, Nat.reduceEqDiff, ↓reduceIte, reduceCtorEq, List.nil_append, Bool.true_and, Bool.not_false, true_and, getT_nil, fits_s, gOp_fld2, gOp_get2]
      refine hT1.lk kn_m _ ?_
      rw [show ({ T with last := T.last + 1 } : PT).get op.node = some x from hx]
      simp (maxSteps := 2000000) only [qops_cons, vcqOp, vcOp, isRd, ev, look, put_mk, ↓reduceIte, Nat.zero_add, Bool.true_and, true_and, nptr_some]
      refine ld_of _ (hT1.s_node kn_m hx).2.2.1 rfl ?_
      simp (maxSteps := 2000000) only [segs_n, ops_cons, qsegs_nil, qops_nil, qops_cons, vcqOp, vcOp, isRd, ev, look, put_mk, GV.getT, Nat.reduceEqDiff, ↓reduceIte, reduceCtorEq, List.nil_append, Bool.true_and, Bool.not_false, true_and, getT_nil, fits_s, gOp_fld5, gOp_get5]
      refine hT1.lkA kn_m hx ?_
      simp (maxSteps := 2000000) only [vc_rgq, thenQ_n, kKeep_eq, segs_nil, ops_nil, ops_cons, qsegs_n, qops_cons, vcqOp, vcOp, isRd, ev, look, updL, put_mk, put_mk0, keep_mk, keepL, GV.getT, GV.sz, GV.same, Nat.reduceEqDiff, ↓reduceIte, reduceCtorEq, List.nil_append, Nat.add_zero, Bool.and_true, Bool.true_and, true_and, and_true, getT_nil, gUndo_fld4, gUndo_get4, gUndo_set4]
      refine ld_of _ (hT1.s_map kn_m) rfl ?_
      simp (maxSteps := 2000000) only [qops_cons, vcqOp, vcOp, isRd, ev, look, put_mk, GV.getT, Nat.reduceEqDiff, ↓reduceIte, reduceCtorEq, List.nil_append, Bool.true_and, Bool.not_false, true_and, getT_nil, fits_s, gOp_fld2, gOp_get2]
      refine hT1.lk kn_m _ ?_
      rw [show ({ T with last := T.last + 1 } : PT).get op.node = some x from hx]
      simp (maxSteps := 2000000) only [segs_n, ops_cons, qsegs_nil, qops_nil, qops_cons, vcqOp, vcOp, isRd, ev, look, put_mk, GV.getT, Nat.reduceEqDiff, ↓reduceIte, reduceCtorEq, List.nil_append, Bool.true_and, Bool.not_false, true_and, getT_nil, fits_s, gOp_fld5, gOp_get5, gOp_fld6, gOp_get6, nptr_some]
      refine call_all (Q := fun rs m' => rs = [] ∧ TM m' L (({ T with last := T.last + 1 } : PT).attr op.node op.key op.value)) rfl rfl (fun w' vs hv hw _ => ?_) fun rs m4 _ hq => ?_
      · obtain ⟨vs, rfl, _, hv⟩ := argsV_g hv
        obtain ⟨vs, rfl, _, hv⟩ := argsV_g hv
        obtain ⟨vs, rfl, _, hv⟩ := argsV_g hv
        obtain rfl := argsV_nil hv
        exact attr_spec w' m1 L _ op.node op.key op.value x hx hT1
      obtain ⟨rfl, hT4⟩ := hq
      simp (maxSteps := 2000000) only [retS, thenQ_n, blockQ_n, kKeep_eq, segs_nil, ops_nil, look, put_mk, keep_mk, keepL, Nat.reduceEqDiff, ↓reduceIte, reduceCtorEq]
      refine tail m4 L _ ⟨ptr (L .mk), T.last + 1, op, zPlace, (getS x.attrs op.key).getD ⟨#[]⟩⟩ rfl rfl hT4 rfl rfl rfl ?_ ?_ _ (ge_of ?_ ?_ rfl rfl rfl)
      · rw [PT.undo, hx]; simp only; rw [if_neg k1, if_neg k2]
      · rw [PT.does, PT.acts, if_neg k1, if_neg k2]
      · simp [frIn, look]
      · simp [pvIn, look]; rfl
end Go.Proofs.Ytdpknchgoeboaaa.Vc

/- Taken back. -/
set_option linter.unusedVariables false
set_option linter.unusedSimpArgs false
set_option maxRecDepth 100000
namespace Go.Proofs.Ytdpknchgoeboaaa.Vc
open Go Go.Proofs

/-- A struct whose first field is a pointer that is not nil is not one whose first field is nil. -/
theorem eqG_first {P : Program} {t : TypeId} {fs : Array Field} {f0 : Field} {rest : List Field} {tx ty : GV} {e : TypeId} {i : TypeInfo} {a : Addr} (hu : P.underlying t = some (.struct fs)) (hfs : fs.toList = f0 :: rest) (hn : f0.name ≠ "_") (ho : f0.offset = 0)
    (h0 : P.underlying f0.type = some (.pointer e)) (hi : P.info? f0.type = some i) (hsz : i.size = 1) (hst : P.stoodInHeld t = false) (hg : P.eqGuardType P.depth t = false) (okx : (GV.c (.s (.pointer (some a))) tx).ok) (oky : (GV.c (.s (.pointer none)) ty).ok) :
    EqG P t (.c (.s (.pointer (some a))) tx) (.c (.s (.pointer none)) ty) false := by
  have hfs' : P.fieldsOf t = fs := by simp [Program.fieldsOf, hu]
  have h : ∀ w, (Op.equalIn 10000 t (GV.c (.s (.pointer (some a))) tx).val (GV.c (.s (.pointer none)) ty).val).run P w = .ok false w := fun w => by
    show (Op.equalIn (9999 + 1) t _ _).run P w = _
    rw [val_agg (fun v => by simp) , val_agg (fun v => by simp), run_equalIn_struct w 9999 t _ _ (by rw [hfs']; exact hu) hst, hfs', hfs]
    have p1 := run_part (P := P) h0 hi (p := [0]) (y := .s (.pointer (some a))) okx rfl (by rw [hsz]; rfl) w
    have p2 := run_part (P := P) h0 hi (p := [0]) (y := .s (.pointer none)) oky rfl (by rw [hsz]; rfl) w
    have o1 : (GV.c (.s (.pointer (some a))) tx).offs [0] = 0 := rfl
    have o2 : (GV.c (.s (.pointer none)) ty).offs [0] = 0 := rfl
    rw [o1, ← ho] at p1; rw [o2, ← ho] at p2
    have p3 := run_eqIn_ptr (P := P) 9998 h0 a w
    simp only [Op.eqFields, hn, ne_eq, not_false_eq_true, if_true, Sem.run_bind, p1, p2, Result.andThen_ok, GV.val]
    rw [p3]
    rfl
  intro b c w
  have hw := h w
  rw [val_agg (fun v => by simp) , val_agg (fun v => by simp)] at hw ⊢
  constructor
  · rw [Sem.run_bind, run_eqGuard_agg w _ _ _ _ _ _ hg, Result.andThen_ok, run_eql_struct w, hw]; rfl
  · rw [Sem.run_bind, run_eqGuard_agg w _ _ _ _ _ _ hg, Result.andThen_ok, run_neq_struct w, hw]; rfl

theorem eqG_same {P : Program} {t e : TypeId} {i : TypeInfo} (ht : P.underlying t = some (.pointer e)) (hi : P.info? e = some i) (hz : i.size ≠ 0) (a : Addr) : EqG P t (.s (.pointer (some a))) (.s (.pointer (some a))) true := by
  have h1 : ∀ w, (sameAddr a a).run P w = .ok true w := fun w => by
    unfold sameAddr
    simp [Sem.run_bind]
  have h0 : ∀ d w, (Op.equalIn (d + 1) t (.pointer (some a)) (.pointer (some a))).run P w = .ok true w := fun d w => by
    unfold Op.equalIn
    simp only [Sem.run_bind, run_underlying' ht, Result.andThen_ok, run_sizeOf' hi, ne_eq, hz, not_false_eq_true, if_true, h1]
  have h : ∀ w, (Op.equal t (.pointer (some a)) (.pointer (some a))).run P w = .ok true w := fun w => h0 9999 w
  intro x y w
  exact ⟨by simp [eqGuard, binOp, Sem.run_bind, GV.val, h], by simp [eqGuard, binOp, Sem.run_bind, GV.val, h]⟩

def PT.undone (T : PT) (u : Undo) : PT :=
  let T1 : PT := { T with ids := T.ids.dropLast }
  if u.op.kind = 1 then (T1.unkid u.op.parent u.op.node).del u.op.node
  else if u.op.kind = 2 then T1.put u.op.node u.was
  else T1.attr u.op.node u.op.key u.attr

theorem SlO.take {u : PH} {ad : Option Addr} {n c z : Nat} {e : TypeId} {xs : List GV} (h : SlO u (.slice ad n c) e z xs) (hn : n = xs.length) {k : Nat} (hk : k ≤ n) {ad' : Option Addr} (ha : ad' = ad) : SlO u (.slice ad' k c) e z (xs.take k) := by
  subst ha
  obtain ⟨hels, ⟨h1, rfl⟩ | ⟨a, c', h1, h2, h3⟩⟩ := h
  · simp only [Value.slice.injEq] at h1
    obtain ⟨rfl, rfl, rfl⟩ := h1
    obtain rfl : k = 0 := by omega
    exact ⟨fun x hx => by simp at hx, .inl ⟨rfl, by simp⟩⟩
  · simp only [Value.slice.injEq] at h1
    obtain ⟨rfl, _, rfl⟩ := h1
    refine ⟨fun x hx => hels x (List.mem_of_mem_take hx), .inr ⟨a, c, by rw [List.length_take, Nat.min_eq_left (by omega)], by rw [List.length_take]; omega, fun hc => ?_⟩⟩
    obtain ⟨cs, g1, g2, g3, g4⟩ := h3 hc
    exact ⟨cs, g1, g2, g3, fun j v hj => g4 j v (flats_take hels k hj)⟩

theorem Back_spec (w : World) (m : PH) (L : Lay) (T : PT) (u : Undo) (hof : u.of = .pointer (some ⟨L .mk, 0, none⟩)) (hT : TM m L T) (hil : T.ids.length < 1099511627776)
    (hsafe : T.ids.getLast? = some u.ix → (u.op.kind = 1 → ∃ x, T.get u.op.parent = some x) ∧ (u.op.kind ≠ 1 → ∃ x, T.get u.op.node = some x)) :
    Spec Try.prog f_tree_Tree_Back [ptr (L .t), (gUndo u).val] m w fun rs m' =>
      (T.ids.getLast? = some u.ix → rs = [.s (.int .i64 0)] ∧ TM m' L (T.undone u)) ∧ (T.ids.getLast? ≠ some u.ix → rs = [.s (.int .i64 120)] ∧ TM m' L T) := by
  have hok : (gUndo u).ok := gUndo_ok u (by rw [hof]; rfl)
  refine spec_of k_tree_Tree_Back [.g (.s (ptr (L .t))), .g (gUndo u)] (by simp) (by simp [AV.ok, GV.ok, Value.oneCell', ptr, hok]) ?_
  simp (maxSteps := 2000000) only [c_tree_Tree_Back, vc_seq, vc_rg, thenQ_n, kKeep_eq, segs_nil, segs_n, ops_nil, ops_cons, vcOp, ev, look, updL, put_mk, keep_mk, keepL, Value.oneCell', cond_true, Nat.reduceEqDiff, ↓reduceIte, reduceCtorEq, Nat.zero_add, Bool.true_and, true_and, initF, initP, ne_eq, gStamp_zero, gOp_zero, gPlace_zero, gUndo_zero, ptr]
  refine call_ism _ [.s (.bool false)] rfl rfl (fun w' vs hv _ _ hm => ?_) ?_
  · obtain ⟨vs, rfl, _, hv⟩ := argsV_g hv
    obtain rfl := argsV_nil hv
    exact none_spec hm hT
  simp (maxSteps := 2000000) only [retS, vc_skip, vc_seq, vc_rg, vc_ite, thenQ_n, kKeep_eq, segs_nil, segs_n, ops_nil, ops_cons, vcOp, ev, evL, gvL, look, put_mk, keep_mk, keepL, Nat.reduceEqDiff, ↓reduceIte, reduceCtorEq, Bool.true_and, true_and, List.map_nil, ↓br_ft, GV.bldT, GV.bldC, getT_nil, gUndo_fits]
  have hne : EqG Try.prog 41 (gUndo u) (gUndo zUndo) false := by
    obtain ⟨of, ix, op, was, attr⟩ := u
    subst hof
    exact eqG_first (fs := Try.prog.fieldsOf 41) (f0 := (Try.prog.fieldsOf 41)[0]!) (rest := (Try.prog.fieldsOf 41).toList.tail) (i := (Try.prog.info? 37).get!) (e := 124) (by kernel_rfl) (by kernel_rfl) (by decide +kernel) (by kernel_rfl) (by kernel_rfl) (by kernel_rfl) (by kernel_rfl) (by kernel_rfl) (by kernel_rfl) hok (gUndo_ok zUndo rfl)
  refine eq_of hne ?_
  simp (maxSteps := 2000000) only [vc_skip, vc_seq, vc_rg, vc_ite, thenQ_n, kKeep_eq, segs_nil, segs_n, ops_nil, ops_cons, vcOp, ev, look, put_mk, keep_mk, keepL, Nat.reduceEqDiff, ↓reduceIte, reduceCtorEq, Nat.zero_add, ↓br_ft, Bool.bne_false]
  obtain ⟨mi, mt, idsV, hm2, hd, hi, ht⟩ := id hT
  have hidsS : ∀ {ph : List PH}, Seen ⟨Try.prog, 98, w, m⟩ ph m (L .t) 3 (.s idsV) := by
    intro ph
    obtain ⟨o, h1, e', rfl⟩ := ht.has .t trivial trivial
    refine seen_cell (u := m) kn_m (by rw [hm2]; exact (uni_r hd h1).1) rfl ?_
    rcases hi.2 with ⟨rfl, _⟩ | ⟨ad, c, rfl, _⟩ <;> rfl
  refine ld_of _ hidsS rfl ?_
  have hshape : ∃ a c, idsV = .slice a T.ids.length c ∧ ∀ d, d < T.ids.length → ∃ b o, a = some ⟨b, o, none⟩ ∧ Seen ⟨Try.prog, 98, w, m⟩ [] m b (o + d * 1) (gi (T.ids.getD d 0)) := by
    have hkn : KN (⟨Try.prog, 98, w, m⟩ : Ctx).u0 [m] mi := fun b o h => .inr ⟨m, by simp, by rw [hm2]; exact sub_uni_l mi mt b o h⟩
    rcases hi.toR.shape with ⟨h3, a, c, h4⟩ | ⟨h3, b, o, c, h4, h5, h6⟩
    · have : T.ids = [] := by simpa using h3
      exact ⟨a, c, by rw [h4, this]; rfl, fun d hd => by rw [this] at hd; simp at hd⟩
    · refine ⟨_, c, by simpa using h4, fun d hd => ⟨b, o, rfl, h6 hkn d _ ?_⟩⟩
      rw [List.getElem?_map, List.getD_eq_getElem?_getD, List.getElem?_eq_getElem hd]; rfl
  obtain ⟨a, c, rfl, hs⟩ := hshape
  simp (maxSteps := 2000000) only [vc_seq, vc_rgq, thenQ_n, kKeep_eq, segs_nil, ops_nil, ops_cons, qsegs_n, qops_cons, vcqOp, vcOp, isRd, ev, look, put_mk, keep_mk, keepL, binV, binC, GV.getT, Value.oneCell', cond_true, Nat.reduceEqDiff, ↓reduceIte, reduceCtorEq, List.nil_append, Nat.zero_add, Bool.true_and, Bool.not_false, true_and, getT_nil, fits_s, gUndo_fld0, gUndo_get0]
  rw [wrap64 (by omega) (by omega)]
  refine ld_of _ (hT.s_mark kn_m) rfl ?_
  simp (maxSteps := 2000000) only [qops_cons, vcqOp, vcOp, isRd, ev, look, put_mk, Nat.reduceEqDiff, ↓reduceIte, Bool.true_and, true_and, ptr]
  rw [hof]
  refine eq_of (eqG_same (i := (Try.prog.info? 124).get!) Try.underlying37 (by kernel_rfl) (by decide +kernel) _) ?_
  simp (maxSteps := 2000000) only [vc_ret, vc_seq, vc_rg, vc_ite, thenQ_n, thenQ_r, kKeep_eq, finQ_r, segs_nil, segs_n, segs_g, ops_nil, ops_cons, qsegs_nil, qsegs_n, qsegs_g, qops_nil, qops_cons, vcqOp, vcOp, isRd, RO.isGh, skip_mk, skipL, ev, look, put_mk, keep_mk, keepL, binV, binC, Value.oneCell', cond_true, cond_false, Nat.reduceEqDiff, ↓reduceIte, reduceCtorEq, Nat.zero_add, Bool.true_and, Bool.not_true, Bool.not_false, true_and, decide_eq_true_eq, decide_eq_false_iff_not, ↓br_tt, ↓br_ff, ↓br_tf, ↓br_ft, br_f, Bool.bne_true]
  have hlast : ∀ n, T.ids.length = n + 1 → T.ids.getLast? = some (T.ids.getD n 0) := fun n hn => by
    rw [List.getLast?_eq_getElem?, hn, Nat.add_sub_cancel, List.getD_eq_getElem?_getD, List.getElem?_eq_getElem (by omega)]; rfl
  refine ⟨fun hge => ?_, fun hlt => ?_⟩
  · obtain ⟨n, hn⟩ : ∃ n, T.ids.length = n + 1 := ⟨T.ids.length - 1, by omega⟩
    refine ld_of _ hidsS rfl ?_
    obtain ⟨b, o, rfl, hsn⟩ := hs n (by omega)
    simp (maxSteps := 2000000) only [qops_cons, vcqOp, vcOp, isRd, ev, look, put_mk, Nat.reduceEqDiff, ↓reduceIte, reduceCtorEq, Bool.true_and, true_and]
    have en : ((T.ids.length : Int) - 1).toNat = n := by omega
    rw [en]
    refine ⟨⟨by omega, by omega⟩, ld_of _ hsn rfl ?_⟩
    simp (maxSteps := 2000000) only [gi, bne_iff_ne, bne_eq_false_iff_eq, vc_skip, vc_ret, vc_seq, vc_rg, vc_ite, thenQ_n, thenQ_r, kKeep_eq, finQ_r, segs_nil, segs_n, segs_g, ops_nil, ops_cons, qsegs_nil, qops_nil, qops_cons, vcqOp, vcOp, isRd, ev, look, put_mk, keep_mk, keepL, binV, binC, GV.getT, Value.oneCell', cond_true, Nat.reduceEqDiff, ↓reduceIte, reduceCtorEq, List.nil_append, Nat.zero_add, Bool.true_and, Bool.not_false, true_and, ne_eq, ↓br_ff, ↓br_ft, br_t, getT_nil, fits_s, gUndo_fld1, gUndo_get1]
    rw [hlast n hn]
    refine ⟨fun hne' => ?_, fun heq => ?_⟩
    · exact fin_m m rfl (fun _ _ h => h) ⟨fun h => absurd (by simpa using h) hne', fun _ => ⟨rfl, hT⟩⟩
    rw [heq]
    obtain ⟨hs1, hs2⟩ := hsafe (by rw [hlast n hn, heq])
    refine ld_of _ hidsS rfl ?_
    simp (maxSteps := 2000000) only [ite_self, Nat.sub_zero, ops_cons, vcOp, ev, look, put_mk, bndN, Nat.reduceEqDiff, Nat.reduceMul, ↓reduceIte, reduceCtorEq, Nat.zero_add, Nat.add_zero, Bool.and_true, and_true, true_imp_iff, false_imp_iff, Int.toNat_natCast, not_true_eq_false]
    rw [en]
    have hcap : T.ids.length ≤ c := by
      rcases hi.2 with ⟨h1, h2⟩ | ⟨ad, c', h1, h2, _⟩
      · cases h1
      · simp only [Value.slice.injEq] at h1
        rw [← h1.2.2, List.length_map] at h2; exact h2
    have hdrop : T.ids.dropLast = T.ids.take n := by rw [List.dropLast_eq_take, hn, Nat.add_sub_cancel]
    have hi2 : SlO mi (.slice (some ⟨b, o, none⟩) n c) 3 1 (T.ids.dropLast.map gi) := by
      rw [hdrop, List.map_take]
      exact hi.take (by simp) (by omega) rfl
    refine ⟨⟨hcap, by omega, by omega, by omega⟩, TreeM.setIds (ids := T.ids.dropLast) hm2 hd ht hi2 fun m2 hT2 => ?_⟩
    simp (maxSteps := 2000000) only [vc_seq, vc_block, vc_rg, vc_rgq, vc_ite, thenQ_n, kKeep_eq, segs_nil, segs_n, ops_nil, ops_cons, qsegs_n, qops_cons, vcqOp, vcOp, isRd, ev, look, put_mk, put_mk0, keep_mk, keepL, binV, binC, GV.getT, Value.oneCell', cond_true, Nat.reduceEqDiff, ↓reduceIte, reduceCtorEq, List.nil_append, List.cons_append, Nat.add_zero, Bool.true_and, Bool.not_false, true_and, br_t, getT_nil, fits_s, gOp_fld1, gOp_get1, gOp_fld2, gOp_get2, gPlace_fits, gUndo_fld2, gUndo_get2, gUndo_fld3, gUndo_get3]
    refine ⟨fun k1 => ?_, fun k1 => ⟨fun k2 => ?_, fun k2 => ?_⟩⟩
    · rw [beq_iff_eq] at k1
      obtain ⟨x, hx⟩ := hs1 k1
      refine ld_of _ (hT2.s_map kn_m) rfl ?_
      simp (maxSteps := 2000000) only [qops_cons, vcqOp, vcOp, isRd, ev, look, put_mk, GV.getT, Nat.reduceEqDiff, ↓reduceIte, reduceCtorEq, List.nil_append, List.cons_append, Bool.true_and, Bool.not_false, true_and, getT_nil, fits_s, gOp_fld3, gOp_get3, gUndo_fld2, gUndo_get2]
      refine hT2.lk kn_m _ ?_
      rw [show ({ T with ids := T.ids.dropLast } : PT).get u.op.parent = some x from hx]
      simp (maxSteps := 2000000) only [qops_cons, vcqOp, vcOp, isRd, ev, look, put_mk, ↓reduceIte, Nat.zero_add, Bool.true_and, true_and, nptr_some]
      refine ld_of _ (hT2.s_node kn_m hx).2.2.2.1 rfl ?_
      simp (maxSteps := 2000000) only [segs_n, ops_cons, qsegs_nil, qops_nil, qops_cons, vcqOp, vcOp, isRd, ev, look, put_mk, GV.getT, Nat.reduceEqDiff, ↓reduceIte, reduceCtorEq, List.nil_append, List.cons_append, Bool.true_and, Bool.not_false, true_and, getT_nil, fits_s, gOp_fld2, gOp_get2, gUndo_fld2, gUndo_get2]
      refine TreeM.unkid (T := { T with ids := T.ids.dropLast }) hT2 hx fun m3 hT3 => ?_
      simp (maxSteps := 2000000) only [vc_rgq, thenQ_n, kKeep_eq, segs_nil, ops_nil, qsegs_n, qops_cons, vcqOp, vcOp, isRd, ev, look, put_mk, put_mk0, keep_mk, keepL, Nat.reduceEqDiff, ↓reduceIte, reduceCtorEq, Nat.add_zero, Bool.true_and, true_and]
      refine ld_of _ (hT3.s_map kn_m) rfl ?_
      simp (maxSteps := 2000000) only [segs_n, ops_cons, qsegs_nil, qops_nil, qops_cons, vcqOp, vcOp, isRd, ev, look, put_mk, GV.getT, Nat.reduceEqDiff, ↓reduceIte, reduceCtorEq, List.nil_append, List.cons_append, Bool.true_and, Bool.not_false, true_and, getT_nil, fits_s, gOp_fld2, gOp_get2, gUndo_fld2, gUndo_get2]
      refine hT3.delNode fun m4 hT4 => ?_
      simp (maxSteps := 2000000) only [vc_ret, vc_seq, vc_rg, thenQ_n, blockQ_n, kKeep_eq, finQ_r, segs_nil, segs_n, ops_nil, ops_cons, vcOp, ev, look, put_mk, put_mk0, keep_mk, keepL, Value.oneCell', cond_true, ↓reduceIte]
      refine fin_m _ rfl (fun _ _ h => h) ⟨rfl, ?_⟩
      rw [PT.undone]; simp only; rw [if_pos k1]; exact hT4
    · rw [beq_eq_false_iff_ne] at k1
      rw [beq_iff_eq] at k2
      obtain ⟨x, hx⟩ := hs2 k1
      refine call_all (Q := fun rs m' => rs = [] ∧ TM m' L (({ T with ids := T.ids.dropLast } : PT).put u.op.node u.was)) rfl rfl (fun w' vs hv hw _ => ?_) fun rs m4 _ hq => ?_
      · obtain ⟨vs, rfl, _, hv⟩ := argsV_g hv
        obtain ⟨vs, rfl, _, hv⟩ := argsV_g hv
        obtain ⟨vs, rfl, _, hv⟩ := argsV_g hv
        obtain rfl := argsV_nil hv
        exact put_spec w' m2 L _ u.op.node u.was x hx hT2
      obtain ⟨rfl, hT4⟩ := hq
      simp (maxSteps := 2000000) only [retS, vc_ret, vc_seq, vc_rg, thenQ_n, blockQ_n, kKeep_eq, finQ_r, segs_nil, segs_n, ops_nil, ops_cons, vcOp, ev, look, put_mk, keep_mk, keepL, Value.oneCell', cond_true, ↓reduceIte]
      refine fin_m _ rfl (fun _ _ h => h) ⟨rfl, ?_⟩
      rw [PT.undone]; simp only; rw [if_neg k1, if_pos k2]; exact hT4
    · rw [beq_eq_false_iff_ne] at k1 k2
      obtain ⟨x, hx⟩ := hs2 k1
      refine ld_of _ (hT2.s_map kn_m) rfl ?_
      simp (maxSteps := 2000000) only [qops_cons, vcqOp, vcOp, isRd, ev, look, put_mk, GV.getT, Nat.reduceEqDiff, ↓reduceIte, reduceCtorEq, List.nil_append, List.cons_append, Bool.true_and, Bool.not_false, true_and, getT_nil, fits_s, gOp_fld2, gOp_get2, gUndo_fld2, gUndo_get2]
      refine hT2.lk kn_m _ ?_
      rw [show ({ T with ids := T.ids.dropLast } : PT).get u.op.node = some x from hx]
      simp (maxSteps := 2000000) only [segs_n, ops_cons, qsegs_nil, qops_nil, qops_cons, vcqOp, vcOp, isRd, ev, look, put_mk, GV.getT, Nat.reduceEqDiff, ↓reduceIte, reduceCtorEq, List.nil_append, List.cons_append, Bool.true_and, Bool.not_false, true_and, getT_nil, fits_s, gOp_fld5, gOp_get5, gUndo_fld2, gUndo_get2, gUndo_fld4, gUndo_get4, nptr_some]
      refine call_all (Q := fun rs m' => rs = [] ∧ TM m' L (({ T with ids := T.ids.dropLast } : PT).attr u.op.node u.op.key u.attr)) rfl rfl (fun w' vs hv hw _ => ?_) fun rs m4 _ hq => ?_
      · obtain ⟨vs, rfl, _, hv⟩ := argsV_g hv
        obtain ⟨vs, rfl, _, hv⟩ := argsV_g hv
        obtain ⟨vs, rfl, _, hv⟩ := argsV_g hv
        obtain rfl := argsV_nil hv
        exact attr_spec w' m2 L _ u.op.node u.op.key u.attr x hx hT2
      obtain ⟨rfl, hT4⟩ := hq
      simp (maxSteps := 2000000) only [retS, vc_ret, vc_seq, vc_rg, thenQ_n, blockQ_n, kKeep_eq, finQ_r, segs_nil, segs_n, ops_nil, ops_cons, vcOp, ev, look, put_mk, keep_mk, keepL, Value.oneCell', cond_true, ↓reduceIte]
      refine fin_m _ rfl (fun _ _ h => h) ⟨rfl, ?_⟩
      rw [PT.undone]; simp only; rw [if_neg k1, if_neg k2]; exact hT4
  · have : T.ids = [] := List.length_eq_zero_iff.1 (by omega)
    refine fin_m m rfl (fun _ _ h => h) ⟨fun h => ?_, fun _ => ⟨rfl, hT⟩⟩
    rw [this] at h; cases h
end Go.Proofs.Ytdpknchgoeboaaa.Vc

/-
  DERIVED: THE SHELF's CONTRACTS AT THIS DUMP, IN PLAIN WORDS (tools/lay-plain.mjs out of 'TryShelf.lean', which tools/lay-shelf.mjs wrote): THE SAME DECLARATIONS UNDER THE SAME NAMES: 'import', 'namespace', 'open', 'def', 'theorem' AND NOTHING ELSE: no command of the shelf's: FOR A HAND-IN. Each laying: the table of numbers ('.._ren') and one theorem, a field a fact of the dump's own or the kernel's comparison; each contract: ONE APPLICATION.
-/
namespace Go.Proofs
open Go.Shelf
def Try.keysI_ren : Go.Shelf.Ren := ⟨fun | 7 => 36 | 10 => 66 | n => n, fun | 23 => 73 | 26 => 2 | 3 => 90 | 28 => 88 | 0 => 0 | 27 => 87 | 33 => 92 | 4 => 4 | n => n, fun | n => n⟩
theorem Try.keysI : Go.Proofs.SlLaysZI.n7 Try.prog Try.keysI_ren := {
  mixed := by kernel_rfl
  f7 := ⟨Try.f36.name, by decide, Try.func36.trans (congrArg some (by kernel_rfl))⟩
  f10 := ⟨Try.f66.name, by decide, Try.func66.trans (congrArg some (by kernel_rfl))⟩
  t0 := Try.underlying0
  a0 := Try.isAgg0
  z0 := Try.sizeOf0
  v0 := Try.zeroValue0
  t4 := Try.underlying4
  a4 := Try.isAgg4
  z4 := Try.sizeOf4
  v4 := Try.zeroValue4
  t23 := Try.underlying73
  a23 := Try.isAgg73
  z23 := Try.sizeOf73
  v23 := Try.zeroValue73
  t26 := Try.underlying2
  a26 := Try.isAgg2
  z26 := Try.sizeOf2
  v26 := Try.zeroValue2
  t27 := Try.underlying87
  a27 := Try.isAgg87
  z27 := Try.sizeOf87
  v27 := Try.zeroValue87
  t28 := Try.underlying88
  a28 := Try.isAgg88
  z28 := Try.sizeOf88
  v28 := Try.zeroValue88
  t33 := Try.underlying92
  a33 := Try.isAgg92
  z33 := Try.sizeOf92
  v33 := Try.zeroValue92 }
def Try.sortedI_ren : Go.Shelf.Ren := ⟨fun | 6 => 35 | 8 => 64 | 9 => 65 | 11 => 75 | 13 => 71 | 12 => 76 | 23 => 88 | 24 => 89 | 14 => 90 | 15 => 91 | 16 => 92 | 17 => 93 | 18 => 94 | 19 => 95 | 20 => 96 | 21 => 97 | 22 => 98 | 25 => 106 | 26 => 102 | 27 => 103 | 28 => 107 | 29 => 108 | 30 => 73 | 31 => 119 | n => n, fun | 26 => 2 | 28 => 88 | 24 => 56 | 0 => 0 | 3 => 3 | 37 => 135 | 48 => 148 | 50 => 150 | 4 => 4 | 40 => 142 | 39 => 141 | 45 => 110 | 5 => 5 | 9 => 9 | 51 => 158 | 55 => 162 | 57 => 171 | 58 => 172 | 33 => 92 | n => n, fun | n => n⟩
theorem Try.sortedI : Go.Proofs.SlLaysZI.n6 Try.prog Try.sortedI_ren := {
  mixed := by kernel_rfl
  f6 := ⟨Try.f35.name, by decide, Try.func35.trans (congrArg some (by kernel_rfl))⟩
  f8 := ⟨Try.f64.name, by decide, Try.func64.trans (congrArg some (by kernel_rfl))⟩
  f11 := ⟨Try.f75.name, by decide, Try.func75.trans (congrArg some (by kernel_rfl))⟩
  t0 := Try.underlying0
  a0 := Try.isAgg0
  z0 := Try.sizeOf0
  v0 := Try.zeroValue0
  t24 := Try.underlying56
  a24 := Try.isAgg56
  z24 := Try.sizeOf56
  v24 := Try.zeroValue56
  t26 := Try.underlying2
  a26 := Try.isAgg2
  z26 := Try.sizeOf2
  v26 := Try.zeroValue2
  t28 := Try.underlying88
  a28 := Try.isAgg88
  z28 := Try.sizeOf88
  v28 := Try.zeroValue88
  i26 := by kernel_rfl }
def Try.sortI_ren : Go.Shelf.Ren := ⟨fun | 5 => 65 | 8 => 71 | 7 => 76 | 19 => 88 | 20 => 89 | 10 => 90 | 11 => 91 | 12 => 92 | 13 => 93 | 14 => 94 | 15 => 95 | 16 => 96 | 17 => 97 | 18 => 98 | 30 => 106 | 31 => 102 | 32 => 103 | 33 => 107 | 34 => 108 | 35 => 73 | 40 => 119 | n => n, fun | 23 => 56 | 25 => 2 | 3 => 3 | 32 => 135 | 22 => 56 | 0 => 0 | 44 => 148 | 46 => 150 | 4 => 4 | 36 => 142 | 35 => 141 | 41 => 110 | 5 => 5 | 9 => 9 | 53 => 158 | 57 => 162 | 63 => 171 | 64 => 172 | n => n, fun | n => n⟩
theorem Try.sortI : Go.Proofs.SlLaysM.n5 Try.prog Try.sortI_ren := {
  mixed := by kernel_rfl
  f5 := ⟨Try.f65.name, by decide, Try.func65.trans (congrArg some (by kernel_rfl))⟩
  f7 := ⟨Try.f76.name, by decide, Try.func76.trans (congrArg some (by kernel_rfl))⟩
  f8 := Try.func71.trans (congrArg some (by kernel_rfl))
  f10 := ⟨Try.f90.name, by decide, Try.func90.trans (congrArg some (by kernel_rfl))⟩
  f11 := ⟨Try.f91.name, by decide, Try.func91.trans (congrArg some (by kernel_rfl))⟩
  f12 := ⟨Try.f92.name, by decide, Try.func92.trans (congrArg some (by kernel_rfl))⟩
  f13 := ⟨Try.f93.name, by decide, Try.func93.trans (congrArg some (by kernel_rfl))⟩
  f14 := ⟨Try.f94.name, by decide, Try.func94.trans (congrArg some (by kernel_rfl))⟩
  f15 := ⟨Try.f95.name, by decide, Try.func95.trans (congrArg some (by kernel_rfl))⟩
  f16 := ⟨Try.f96.name, by decide, Try.func96.trans (congrArg some (by kernel_rfl))⟩
  f17 := ⟨Try.f97.name, by decide, Try.func97.trans (congrArg some (by kernel_rfl))⟩
  f18 := ⟨Try.f98.name, by decide, Try.func98.trans (congrArg some (by kernel_rfl))⟩
  f19 := Try.func88.trans (congrArg some (by kernel_rfl))
  f20 := Try.func89.trans (congrArg some (by kernel_rfl))
  f30 := ⟨Try.f106.name, by decide, Try.func106.trans (congrArg some (by kernel_rfl))⟩
  f31 := Try.func102.trans (congrArg some (by kernel_rfl))
  f32 := Try.func103.trans (congrArg some (by kernel_rfl))
  f33 := ⟨Try.f107.name, by decide, Try.func107.trans (congrArg some (by kernel_rfl))⟩
  f34 := ⟨Try.f108.name, by decide, Try.func108.trans (congrArg some (by kernel_rfl))⟩
  f35 := ⟨Try.f73.name, by decide, Try.func73.trans (congrArg some (by kernel_rfl))⟩
  f40 := ⟨Try.f119.name, by decide, Try.func119.trans (congrArg some (by kernel_rfl))⟩
  t0 := Try.underlying0
  a0 := Try.isAgg0
  z0 := Try.sizeOf0
  v0 := Try.zeroValue0
  t3 := Try.underlying3
  a3 := Try.isAgg3
  z3 := Try.sizeOf3
  v3 := Try.zeroValue3
  t4 := Try.underlying4
  a4 := Try.isAgg4
  z4 := Try.sizeOf4
  v4 := Try.zeroValue4
  t5 := Try.underlying5
  a5 := Try.isAgg5
  z5 := Try.sizeOf5
  v5 := Try.zeroValue5
  t9 := Try.underlying9
  a9 := Try.isAgg9
  z9 := Try.sizeOf9
  v9 := Try.zeroValue9
  t22 := Try.underlying56
  a22 := Try.isAgg56
  z22 := Try.sizeOf56
  v22 := Try.zeroValue56
  t23 := Try.underlying56
  a23 := Try.isAgg56
  z23 := Try.sizeOf56
  v23 := Try.zeroValue56
  t25 := Try.underlying2
  a25 := Try.isAgg2
  z25 := Try.sizeOf2
  v25 := Try.zeroValue2
  t32 := Try.underlying135
  a32 := Try.isAgg135
  z32 := Try.sizeOf135
  v32 := Try.zeroValue135
  t35 := Try.underlying141
  a35 := Try.isAgg141
  z35 := Try.sizeOf141
  v35 := Try.zeroValue141
  t36 := Try.underlying142
  a36 := Try.isAgg142
  z36 := Try.sizeOf142
  v36 := Try.zeroValue142
  t41 := Try.underlying110
  a41 := Try.isAgg110
  z41 := Try.sizeOf110
  v41 := Try.zeroValue110
  t44 := Try.underlying148
  a44 := Try.isAgg148
  z44 := Try.sizeOf148
  v44 := Try.zeroValue148
  t46 := Try.underlying150
  a46 := Try.isAgg150
  z46 := Try.sizeOf150
  v46 := Try.zeroValue150
  t53 := Try.underlying158
  a53 := Try.isAgg158
  z53 := Try.sizeOf158
  v53 := Try.zeroValue158
  t57 := Try.underlying162
  a57 := Try.isAgg162
  z57 := Try.sizeOf162
  v57 := Try.zeroValue162
  t63 := Try.underlying171
  a63 := Try.isAgg171
  z63 := Try.sizeOf171
  v63 := Try.zeroValue171
  t64 := Try.underlying172
  a64 := Try.isAgg172
  z64 := Try.sizeOf172
  v64 := Try.zeroValue172 }
def Try.keysT_ren : Go.Shelf.Ren := ⟨fun | 7 => 68 | 10 => 79 | n => n, fun | 23 => 96 | 26 => 9 | 3 => 9 | 28 => 131 | 0 => 0 | 27 => 130 | 33 => 23 | 4 => 4 | n => n, fun | n => n⟩
theorem Try.keysT : Go.Proofs.SlLaysZ.n7 Try.prog Try.keysT_ren := {
  mixed := by kernel_rfl
  f7 := ⟨Try.f68.name, by decide, Try.func68.trans (congrArg some (by kernel_rfl))⟩
  f10 := ⟨Try.f79.name, by decide, Try.func79.trans (congrArg some (by kernel_rfl))⟩
  t0 := Try.underlying0
  a0 := Try.isAgg0
  z0 := Try.sizeOf0
  v0 := Try.zeroValue0
  t4 := Try.underlying4
  a4 := Try.isAgg4
  z4 := Try.sizeOf4
  v4 := Try.zeroValue4
  t23 := Try.underlying96
  a23 := Try.isAgg96
  z23 := Try.sizeOf96
  v23 := Try.zeroValue96
  t26 := Try.underlying9
  a26 := Try.isAgg9
  z26 := Try.sizeOf9
  v26 := Try.zeroValue9
  t27 := Try.underlying130
  a27 := Try.isAgg130
  z27 := Try.sizeOf130
  v27 := Try.zeroValue130
  t28 := Try.underlying131
  a28 := Try.isAgg131
  z28 := Try.sizeOf131
  v28 := Try.zeroValue131
  t33 := Try.underlying23
  a33 := Try.isAgg23
  z33 := Try.sizeOf23
  v33 := Try.zeroValue23 }
def Try.sortedT_ren : Go.Shelf.Ren := ⟨fun | 6 => 67 | 8 => 77 | 9 => 78 | 11 => 99 | 13 => 71 | 12 => 100 | 23 => 88 | 24 => 89 | 14 => 109 | 15 => 110 | 16 => 111 | 17 => 112 | 18 => 113 | 19 => 114 | 20 => 115 | 21 => 116 | 22 => 117 | 25 => 120 | 26 => 102 | 27 => 103 | 28 => 121 | 29 => 122 | 30 => 72 | 31 => 123 | n => n, fun | 26 => 9 | 28 => 131 | 24 => 128 | 0 => 0 | 3 => 3 | 37 => 135 | 48 => 148 | 50 => 150 | 4 => 4 | 40 => 142 | 39 => 141 | 45 => 110 | 5 => 5 | 9 => 9 | 51 => 158 | 55 => 162 | 57 => 171 | 58 => 172 | 33 => 23 | n => n, fun | n => n⟩
theorem Try.sortedT : Go.Proofs.SlLaysZ.n6 Try.prog Try.sortedT_ren := {
  mixed := by kernel_rfl
  f6 := ⟨Try.f67.name, by decide, Try.func67.trans (congrArg some (by kernel_rfl))⟩
  f8 := ⟨Try.f77.name, by decide, Try.func77.trans (congrArg some (by kernel_rfl))⟩
  f11 := ⟨Try.f99.name, by decide, Try.func99.trans (congrArg some (by kernel_rfl))⟩
  t0 := Try.underlying0
  a0 := Try.isAgg0
  z0 := Try.sizeOf0
  v0 := Try.zeroValue0
  t24 := Try.underlying128
  a24 := Try.isAgg128
  z24 := Try.sizeOf128
  v24 := Try.zeroValue128
  t26 := Try.underlying9
  a26 := Try.isAgg9
  z26 := Try.sizeOf9
  v26 := Try.zeroValue9
  t28 := Try.underlying131
  a28 := Try.isAgg131
  z28 := Try.sizeOf131
  v28 := Try.zeroValue131
  i26 := by kernel_rfl }
def Try.sortT_ren : Go.Shelf.Ren := ⟨fun | 6 => 78 | 8 => 71 | 9 => 100 | 19 => 88 | 20 => 89 | 21 => 109 | 22 => 110 | 23 => 111 | 24 => 112 | 25 => 113 | 26 => 114 | 27 => 115 | 28 => 116 | 29 => 117 | 36 => 120 | 31 => 102 | 32 => 103 | 37 => 121 | 38 => 122 | 39 => 72 | 41 => 123 | n => n, fun | 27 => 128 | 29 => 9 | 3 => 3 | 32 => 135 | 26 => 128 | 0 => 0 | 44 => 148 | 46 => 150 | 4 => 4 | 36 => 142 | 35 => 141 | 41 => 110 | 5 => 5 | 9 => 9 | 53 => 158 | 57 => 162 | 63 => 171 | 64 => 172 | n => n, fun | n => n⟩
theorem Try.sortT : Go.Proofs.SlLaysM.n6 Try.prog Try.sortT_ren := {
  mixed := by kernel_rfl
  f6 := ⟨Try.f78.name, by decide, Try.func78.trans (congrArg some (by kernel_rfl))⟩
  f8 := Try.func71.trans (congrArg some (by kernel_rfl))
  f9 := ⟨Try.f100.name, by decide, Try.func100.trans (congrArg some (by kernel_rfl))⟩
  f19 := Try.func88.trans (congrArg some (by kernel_rfl))
  f20 := Try.func89.trans (congrArg some (by kernel_rfl))
  f21 := ⟨Try.f109.name, by decide, Try.func109.trans (congrArg some (by kernel_rfl))⟩
  f22 := ⟨Try.f110.name, by decide, Try.func110.trans (congrArg some (by kernel_rfl))⟩
  f23 := ⟨Try.f111.name, by decide, Try.func111.trans (congrArg some (by kernel_rfl))⟩
  f24 := ⟨Try.f112.name, by decide, Try.func112.trans (congrArg some (by kernel_rfl))⟩
  f25 := ⟨Try.f113.name, by decide, Try.func113.trans (congrArg some (by kernel_rfl))⟩
  f26 := ⟨Try.f114.name, by decide, Try.func114.trans (congrArg some (by kernel_rfl))⟩
  f27 := ⟨Try.f115.name, by decide, Try.func115.trans (congrArg some (by kernel_rfl))⟩
  f28 := ⟨Try.f116.name, by decide, Try.func116.trans (congrArg some (by kernel_rfl))⟩
  f29 := ⟨Try.f117.name, by decide, Try.func117.trans (congrArg some (by kernel_rfl))⟩
  f31 := Try.func102.trans (congrArg some (by kernel_rfl))
  f32 := Try.func103.trans (congrArg some (by kernel_rfl))
  f36 := ⟨Try.f120.name, by decide, Try.func120.trans (congrArg some (by kernel_rfl))⟩
  f37 := ⟨Try.f121.name, by decide, Try.func121.trans (congrArg some (by kernel_rfl))⟩
  f38 := ⟨Try.f122.name, by decide, Try.func122.trans (congrArg some (by kernel_rfl))⟩
  f39 := ⟨Try.f72.name, by decide, Try.func72.trans (congrArg some (by kernel_rfl))⟩
  f41 := ⟨Try.f123.name, by decide, Try.func123.trans (congrArg some (by kernel_rfl))⟩
  t0 := Try.underlying0
  a0 := Try.isAgg0
  z0 := Try.sizeOf0
  v0 := Try.zeroValue0
  t3 := Try.underlying3
  a3 := Try.isAgg3
  z3 := Try.sizeOf3
  v3 := Try.zeroValue3
  t4 := Try.underlying4
  a4 := Try.isAgg4
  z4 := Try.sizeOf4
  v4 := Try.zeroValue4
  t5 := Try.underlying5
  a5 := Try.isAgg5
  z5 := Try.sizeOf5
  v5 := Try.zeroValue5
  t9 := Try.underlying9
  a9 := Try.isAgg9
  z9 := Try.sizeOf9
  v9 := Try.zeroValue9
  t26 := Try.underlying128
  a26 := Try.isAgg128
  z26 := Try.sizeOf128
  v26 := Try.zeroValue128
  t27 := Try.underlying128
  a27 := Try.isAgg128
  z27 := Try.sizeOf128
  v27 := Try.zeroValue128
  t29 := Try.underlying9
  a29 := Try.isAgg9
  z29 := Try.sizeOf9
  v29 := Try.zeroValue9
  t32 := Try.underlying135
  a32 := Try.isAgg135
  z32 := Try.sizeOf135
  v32 := Try.zeroValue135
  t35 := Try.underlying141
  a35 := Try.isAgg141
  z35 := Try.sizeOf141
  v35 := Try.zeroValue141
  t36 := Try.underlying142
  a36 := Try.isAgg142
  z36 := Try.sizeOf142
  v36 := Try.zeroValue142
  t41 := Try.underlying110
  a41 := Try.isAgg110
  z41 := Try.sizeOf110
  v41 := Try.zeroValue110
  t44 := Try.underlying148
  a44 := Try.isAgg148
  z44 := Try.sizeOf148
  v44 := Try.zeroValue148
  t46 := Try.underlying150
  a46 := Try.isAgg150
  z46 := Try.sizeOf150
  v46 := Try.zeroValue150
  t53 := Try.underlying158
  a53 := Try.isAgg158
  z53 := Try.sizeOf158
  v53 := Try.zeroValue158
  t57 := Try.underlying162
  a57 := Try.isAgg162
  z57 := Try.sizeOf162
  v57 := Try.zeroValue162
  t63 := Try.underlying171
  a63 := Try.isAgg171
  z63 := Try.sizeOf171
  v63 := Try.zeroValue171
  t64 := Try.underlying172
  a64 := Try.isAgg172
  z64 := Try.sizeOf172
  v64 := Try.zeroValue172 }
end Go.Proofs

/- slices.Sorted(maps.Keys(m)): the kit's contracts as contracts of these texts. -/
set_option linter.unusedVariables false
set_option linter.unusedSimpArgs false
namespace Go.Proofs.Ytdpknchgoeboaaa.Vc
open Go Go.Proofs Go.RowKit Go.Maps Go.Sort Go.Shelf

def keyI (p : Value × Value) : Int := match p.1 with | .int _ n => n | _ => 0
def keyT (p : Value × Value) : List UInt8 := match p.1 with | .string s => s.data.toList | _ => []
def anyD (_ : Value) : Option (DataW Unit × List MemPlace) := some (.nil, [])

theorem owns_int {w : World} {b : Nat} {o : Obj} {l : List (Value × Value)} {kt : TypeId} (hk : Try.prog.underlying kt = some (.int .i64)) (hb : w.heap[b]? = some o) (hm : MapI (some .i64) o l) (hr : ∀ p ∈ l, (Lit.int .i64 (keyI p)).wf = true) (hs : l.length ≤ maxLen) :
    ∃ nn D0, w.ownsMap Try.prog kt anyD b nn D0 ∧ (intKeys D0).Perm (l.map keyI) ∧ Maps.size D0 = l.length := by
  obtain ⟨es, cl, rfl, rfl, h1, h2⟩ := hm
  have hlen : es.size ≤ maxLen := by simpa using hs
  have hrd : ∀ x ∈ es.toList, Go.WideElems.rd Try.prog kt anyD x = some (.int .i64 (keyI (kv x)), .nil) := fun x hx => by
    obtain ⟨g1, _⟩ := h2 x hx
    have g2 := hr (kv x) (List.mem_map.2 ⟨x, hx, rfl⟩)
    cases hkx : x.key with
    | int k n =>
      rw [hkx] at g1
      have : k = .i64 := g1
      subst this
      have e : keyI (kv x) = n := by simp [keyI, kv, hkx]
      rw [e] at g2 ⊢
      unfold Go.WideElems.rd
      rw [hkx, keyOf_int_mk hk g2]
      rfl
    | _ => rw [hkx] at g1; exact g1.elim
  have hrg : ∀ x ∈ es.toList, Go.WideElems.rg Try.prog kt anyD x = (.int .i64 (keyI (kv x)), .nil) := fun x hx => by
    unfold Go.WideElems.rg; rw [hrd x hx]; rfl
  refine ⟨es.size, .map ((es.toList.map (Go.WideElems.rg Try.prog kt anyD)).foldr DataW.insert []), ⟨es, cl, hb, ⟨hlen, h1, fun x hx => ⟨_, hrd x hx⟩⟩, Nat.le_refl _, rfl⟩, ?_, ?_⟩
  · have hp := Go.WideShapes.sorted_perm (es.toList.map (Go.WideElems.rg Try.prog kt anyD))
    have := hp.map (fun p : Lit × DataW Unit => _root_.Go.intOf p.1)
    refine (show (intKeys (H := Unit) (.map ((es.toList.map (Go.WideElems.rg Try.prog kt anyD)).foldr DataW.insert []))).Perm _ from this).trans (List.Perm.of_eq ?_)
    rw [List.map_map, List.map_map]
    exact List.map_congr_left fun x hx => by simp [Function.comp, hrg x hx, _root_.Go.intOf]
  · have hp := Go.WideShapes.sorted_perm (es.toList.map (Go.WideElems.rg Try.prog kt anyD))
    rw [Maps.size_eq, hp.length_eq]
    simp
theorem owns_str {w : World} {b : Nat} {o : Obj} {l : List (Value × Value)} {kt : TypeId} (hk : Try.prog.underlying kt = some .string) (hb : w.heap[b]? = some o) (hm : MapI none o l) (hr : ∀ p ∈ l, (keyT p).length ≤ maxLen) (hs : l.length ≤ maxLen) :
    ∃ nn D0, w.ownsMap Try.prog kt anyD b nn D0 ∧ (strKeys D0).Perm (l.map keyT) ∧ Maps.size D0 = l.length := by
  obtain ⟨es, cl, rfl, rfl, h1, h2⟩ := hm
  have hlen : es.size ≤ maxLen := by simpa using hs
  have hrd : ∀ x ∈ es.toList, Go.WideElems.rd Try.prog kt anyD x = some (.string (keyT (kv x)), .nil) := fun x hx => by
    obtain ⟨g1, _⟩ := h2 x hx
    have g2 := hr (kv x) (List.mem_map.2 ⟨x, hx, rfl⟩)
    cases hkx : x.key with
    | string s =>
      have e : keyT (kv x) = s.data.toList := by simp [keyT, kv, hkx]
      rw [e] at g2 ⊢
      have g3 : s.size ≤ maxLen := by rw [Array.length_toList] at g2; exact g2
      unfold Go.WideElems.rd
      rw [hkx]
      simp [keyOf, hk, mapKey, g3, anyD]
    | _ => rw [hkx] at g1; exact g1.elim
  have hrg : ∀ x ∈ es.toList, Go.WideElems.rg Try.prog kt anyD x = (.string (keyT (kv x)), .nil) := fun x hx => by
    unfold Go.WideElems.rg; rw [hrd x hx]; rfl
  refine ⟨es.size, .map ((es.toList.map (Go.WideElems.rg Try.prog kt anyD)).foldr DataW.insert []), ⟨es, cl, hb, ⟨hlen, h1, fun x hx => ⟨_, hrd x hx⟩⟩, Nat.le_refl _, rfl⟩, ?_, ?_⟩
  · have hp := Go.WideShapes.sorted_perm (es.toList.map (Go.WideElems.rg Try.prog kt anyD))
    have := hp.map (fun p : Lit × DataW Unit => strOf p.1)
    refine (show (strKeys (H := Unit) (.map ((es.toList.map (Go.WideElems.rg Try.prog kt anyD)).foldr DataW.insert []))).Perm _ from this).trans (List.Perm.of_eq ?_)
    rw [List.map_map, List.map_map]
    exact List.map_congr_left fun x hx => by simp [Function.comp, hrg x hx, strOf]
  · have hp := Go.WideShapes.sorted_perm (es.toList.map (Go.WideElems.rg Try.prog kt anyD))
    rw [Maps.size_eq, hp.length_eq]
    simp

theorem sortsI (m : Nat) : AnyZI.SortsIn Try.prog Try.sortedI_ren Fence.wide m :=
  ⟨fun blk off cap ss W hH hblk hsz => callsIn_wide.2 (AnyM.slices_Sort_int Try.sortI blk off cap ss W hH hblk hsz),
   fun p cap W => callsIn_wide.2 (AnyM.slices_Sort_int_none Try.sortI p cap W)⟩
theorem sortsT (m : Nat) : AnyZ.SortsIn Try.prog Try.sortedT_ren Fence.wide m :=
  ⟨fun blk off cap ss W hH hblk hsz => callsIn_wide.2 (AnyM.slices_Sort_string Try.sortT blk off cap ss W hH hblk hsz),
   fun p cap W => callsIn_wide.2 (AnyM.slices_Sort_string_none Try.sortT p cap W)⟩

abbrev fKeysI : Nat := 36
abbrev fKeysI1 : Nat := 66
abbrev fSortedI : Nat := 35
abbrev fKeysT : Nat := 68
abbrev fKeysT1 : Nat := 79
abbrev fSortedT : Nat := 67

/-- What goes over a map's keys. -/
def keysV (f b : Nat) : Value := .func (.func f) #[] #[ptr b]
def KeysQ (f b : Nat) (rs : List GV) (m' : PH) : Prop := ∃ bm e, rs = [.s (keysV f bm)] ∧ m' bm = some (.cells #[.map (some b)] e (0, 0))

theorem spec_alloc {P : Program} {f : Nat} {args : List Value} {w : World} {ob : Obj} {v : Value} {Q : List GV → PH → Prop} (h : Calls P f args.toArray w fun e w' => e = .returned v ∧ w' = w.alloc ob) (hv : v.oneCell' = true) (hn : ∀ xs, v ≠ .tuple xs) (hq : Q [.s v] (one w.heap.size ob)) : Spec P f args PH.no w Q := by
  intro _
  refine h.mono fun e w' ⟨he, hw⟩ => ?_
  subst hw
  refine ⟨[.s v], one w.heap.size ob, by rw [he]; rfl, by simpa [GV.ok] using hv, hq, ?_, ?_, ⟨rfl, rfl, rfl, by simp, fun k hk _ => alloc_old hk⟩⟩
  · intro b o hb
    simp only [one] at hb
    split at hb
    · rename_i e; subst e
      simp only [Option.some.injEq] at hb
      subst hb
      exact alloc_new
    · cases hb
  · intro b hb
    right
    simp only [one] at hb
    split at hb
    · rename_i e; omega
    · exact absurd rfl hb

theorem keysI_spec (w : World) (b : Nat) : Spec Try.prog fKeysI [.map (some b)] PH.no w (KeysQ fKeysI1 b) :=
  spec_alloc (callsIn_wide.1 (AnyZI.keys_in Try.keysI Fence.wide 5 trivial rfl (some b) w)) rfl (fun xs h => by cases h) ⟨_, _, rfl, by simp [one]; rfl⟩
theorem keysT_spec (w : World) (b : Nat) : Spec Try.prog fKeysT [.map (some b)] PH.no w (KeysQ fKeysT1 b) :=
  spec_alloc (callsIn_wide.1 (AnyZ.keys_in Try.keysT Fence.wide 5 trivial rfl (some b) w)) rfl (fun xs h => by cases h) ⟨_, _, rfl, by simp [one]; rfl⟩

/-- A new row, handed back. -/
theorem spec_row {P : Program} {f : Nat} {args : List Value} {w : World} {et : TypeId} {Q : List GV → PH → Prop} (h : Calls P f args.toArray w fun e w' => ∃ v xs, e = .returned v ∧ w'.ownsRow w.heap.size et 1 v xs.length xs ∧ Below w.heap.size w w' ∧ (∀ x ∈ xs, x.oneCell' = true) ∧ ∀ m', SlO m' v et 1 (xs.map GV.s) → Q [.s v] m') : Spec P f args PH.no w Q := by
  intro _
  refine h.mono fun e w' ⟨v, xs, he, ⟨_, hrow⟩, hbl, hone, hq⟩ => ?_
  have hfl : ∀ l : List Value, flats (l.map GV.s) = l := fun l => by
    induction l with
    | nil => rfl
    | cons x l ih => simp only [flats, List.map_cons, List.flatMap_cons, GV.flat] at ih ⊢; rw [ih]; rfl
  have hels : Els 1 (xs.map GV.s) := fun x hx => by
    obtain ⟨y, hy, rfl⟩ := List.mem_map.1 hx
    exact ⟨hone y hy, rfl⟩
  rcases hrow with ⟨rfl, hz⟩ | ⟨g, cap, cur, rfl, hbase, hg, h1, h2, h3, h4⟩
  · have : xs = [] := List.length_eq_zero_iff.1 hz
    subst this
    exact ⟨[.s (.slice none 0 0)], PH.no, by rw [he]; rfl, by simp [GV.ok, Value.oneCell'], hq _ ⟨fun x hx => by simp at hx, .inl ⟨rfl, rfl⟩⟩, (fun _ _ h => by cases h), (fun b hb => absurd rfl hb), hbl.os, hbl.tape, hbl.output, hbl.size, fun k hk _ => hbl.block k hk⟩
  · refine ⟨[.s (.slice (some ⟨g, 0, none⟩) xs.length cap)], one g (.cells cur et (0, 0)), by rw [he]; rfl, by simp [GV.ok, Value.oneCell'], hq _ ⟨hels, .inr ⟨⟨g, 0, none⟩, cap, by simp, by simpa using h1, fun _ => ⟨cur, rfl, by simp [h3], by simp [one], fun j y hj => ?_⟩⟩⟩, ?_, ?_, hbl.os, hbl.tape, hbl.output, hbl.size, fun k hk _ => hbl.block k hk⟩
    · rw [hfl] at hj
      have : cur.toList[j]? = some y := by
        have hlt : j < xs.length := by
          rcases Nat.lt_or_ge j xs.length with h | h
          · exact h
          · rw [List.getElem?_eq_none h] at hj; cases hj
        rw [← h4] at hj
        rw [List.getElem?_take_of_lt (by omega)] at hj
        exact hj
      simpa using this
    · intro b o hb
      simp only [one] at hb
      split at hb
      · rename_i e; subst e
        simp only [Option.some.injEq] at hb
        subst hb
        exact hg
      · cases hb
    · intro b hb
      right
      simp only [one] at hb
      split at hb
      · rename_i e; omega
      · exact absurd rfl hb

def sortZ (l : List Int) : List Int := l.mergeSort fun x y => decide (x ≤ y)
def sortB (l : List (List UInt8)) : List (List UInt8) := l.mergeSort fun x y => decide (x ≤ y)

theorem sortedI_spec (w : World) (b bm : Nat) (e : TypeId) (fz : Nat × Nat) (o : Obj) (l : List (Value × Value)) (u : PH) (hu : u.le w) (hbm : u bm = some (.cells #[.map (some b)] e fz)) (hb : u b = some o) (hm : MapI (some .i64) o l) (hr : ∀ p ∈ l, (Lit.int .i64 (keyI p)).wf = true) (hs : l.length * 8 ≤ 140737488355328) :
    Spec Try.prog fSortedI [keysV fKeysI1 bm] PH.no w fun rs m' => ∃ v, rs = [.s v] ∧ SlO m' v 2 1 ((sortZ (l.map keyI)).map gi) := by
  have hmax : l.length ≤ maxLen := by unfold maxLen; omega
  obtain ⟨nn, D0, hown, hperm, hsize⟩ := owns_int (kt := 2) Try.underlying2 (hu _ _ hb) hm hr hmax
  have hblk := hu _ _ hbm
  have hseq : SeqGives Fence.wide 2 Try.prog fKeysI1 #[ptr bm] encZ (fun ss => ss.Perm (intKeys D0)) (Maps.size D0) w :=
    AnyZI.keys_gives (ρ := Try.keysI_ren) { Try.keysI with } Fence.wide _ trivial rfl (by omega) bm b nn D0 w (Array.getElem?_eq_some_iff.1 hblk).1 (by rw [cell_of hblk]; rfl) hown
  have cS := AnyZI.sorted_in Try.sortedI Fence.wide 5 trivial trivial trivial trivial rfl (by omega) (sortsI _) (enters_of Try.func65 (by kernel_rfl) rfl) fKeysI1 #[ptr bm] trivial (enters_of Try.func66 (by kernel_rfl) rfl) _ _ (by rw [hsize]; exact hmax) (by rw [hsize]; exact hs) w hseq
  refine spec_row (et := 2) ((callsIn_wide.1 cS).mono fun e w' ⟨v, ss, he, hS, hrow, _, hbl⟩ => ?_)
  have hss : (ss.mergeSort fun x y => decide (x ≤ y)) = sortZ (l.map keyI) := mergeSort_of_perm_i (hS.trans hperm)
  rw [hss] at hrow
  refine ⟨v, (sortZ (l.map keyI)).map encZ, he, ?_, hbl, fun x hx => ?_, fun m' hm' => ⟨v, rfl, ?_⟩⟩
  · have : ((sortZ (l.map keyI)).map encZ).length = ss.length := by rw [List.length_map, ← hss]; simp
    rw [this]; exact hrow
  · obtain ⟨n, _, rfl⟩ := List.mem_map.1 hx; rfl
  · rw [List.map_map] at hm'; exact hm'

theorem sortedT_spec (w : World) (b bm : Nat) (e : TypeId) (fz : Nat × Nat) (o : Obj) (l : List (Value × Value)) (u : PH) (hu : u.le w) (hbm : u bm = some (.cells #[.map (some b)] e fz)) (hb : u b = some o) (hm : MapI none o l) (hr : ∀ p ∈ l, (keyT p).length ≤ maxLen) (hs : l.length * 16 ≤ 140737488355328) :
    Spec Try.prog fSortedT [keysV fKeysT1 bm] PH.no w fun rs m' => ∃ v, rs = [.s v] ∧ SlO m' v 9 1 ((sortB (l.map keyT)).map fun b => .s (encStr b)) := by
  have hmax : l.length ≤ maxLen := by unfold maxLen; omega
  obtain ⟨nn, D0, hown, hperm, hsize⟩ := owns_str (kt := 9) Try.underlying9 (hu _ _ hb) hm hr hmax
  have hblk := hu _ _ hbm
  have hseq : SeqGives Fence.wide 2 Try.prog fKeysT1 #[ptr bm] encStr (fun ss => ss.Perm (strKeys D0)) (Maps.size D0) w :=
    AnyZ.keys_gives (ρ := Try.keysT_ren) { Try.keysT with } Fence.wide _ trivial rfl (by omega) bm b nn D0 w (Array.getElem?_eq_some_iff.1 hblk).1 (by rw [cell_of hblk]; rfl) hown
  have cS := AnyZ.sorted_in Try.sortedT Fence.wide 5 trivial trivial trivial trivial rfl (by omega) (sortsT _) (enters_of Try.func78 (by kernel_rfl) rfl) fKeysT1 #[ptr bm] trivial (enters_of Try.func79 (by kernel_rfl) rfl) _ _ (by rw [hsize]; exact hmax) (by rw [hsize]; exact hs) w hseq
  refine spec_row (et := 9) ((callsIn_wide.1 cS).mono fun e w' ⟨v, ss, he, hS, hrow, _, hbl⟩ => ?_)
  have hss : (ss.mergeSort fun x y => decide (x ≤ y)) = sortB (l.map keyT) := mergeSort_of_perm (hS.trans hperm)
  rw [hss] at hrow
  refine ⟨v, (sortB (l.map keyT)).map encStr, he, ?_, hbl, fun x hx => ?_, fun m' hm' => ⟨v, rfl, ?_⟩⟩
  · have : ((sortB (l.map keyT)).map encStr).length = ss.length := by rw [List.length_map, ← hss]; simp
    rw [this]; exact hrow
  · obtain ⟨n, _, rfl⟩ := List.mem_map.1 hx; rfl
  · rw [List.map_map] at hm'; exact hm'
end Go.Proofs.Ytdpknchgoeboaaa.Vc

/- The code of some functions of the program, its types resolved: printed by a program of this claim. -/
set_option linter.unusedVariables false
set_option maxRecDepth 100000
namespace Go.Proofs.Ytdpknchgoeboaaa.Vc
open Go Go.Proofs

abbrev f_tree_Tree_told : Nat := 37
def c_tree_Tree_told_L0 : Cd :=
 (.seq (.rg [⟨none, [(some 35, .bin .lss (.t 34) (.t 33))]⟩] [4, 5, 6, 32, 33, 34, 35])
 (.seq (.ite (.t 35)
 .skip
 (.exit 0))
 (.seq (.block 1 (.seq (.rg [⟨none, [(some 36, .idxS (.t 32) (.t 34) 1), (some 37, .ld (.t 36) 1 false), (some 8, .mv (.t 37))]⟩] [4, 5, 6, 8, 32, 33, 34])
 (.rga (.op ⟨none, [(some 38, .fldA (.t 6) 3 3)]⟩ (.op ⟨none, [(some 40, .mv (.t 8))]⟩ (.op ⟨none, [(some 41, .mv (.t 5))]⟩ (.op ⟨none, [(some 42, .nilc (.t 41))]⟩ (.op ⟨none, [(some 43, .fldA (.t 42) 1 2)]⟩ (.op ⟨none, [(some 45, .mv (.t 8))]⟩ (.or (.op ⟨none, [(some 39, .ld (.t 38) 1 false)]⟩ (.op ⟨none, [(some 44, .ld (.t 43) 1 false)]⟩ (.op ⟨none, [(some 46, .mlk none (.t 44) (.t 45) (.string ⟨#[]⟩) false)]⟩ (.op ⟨none, [(some 47, .bld (.c (.s (.string ⟨#[]⟩)) (.c (.s (.string ⟨#[]⟩)) .u)) [(0, (.t 40)), (1, (.t 46))])]⟩ (.op ⟨none, [(some 48, .bldS 103 2 (.c (.s (.string ⟨#[]⟩)) (.c (.s (.string ⟨#[]⟩)) .u)) [(.t 47)])]⟩ (.op ⟨none, [(some 49, .app 103 2 32 (.c (.s (.string ⟨#[]⟩)) (.c (.s (.string ⟨#[]⟩)) .u)) (.t 39) (.t 48))]⟩ (.op ⟨none, [(some 50, .fldA (.t 6) 3 3)]⟩ (.op ⟨none, [(none, .st (.t 50) (.t 49) 1)]⟩ .done)))))))) (.op ⟨none, [(some 44, .ld (.t 43) 1 false)]⟩ (.or (.op ⟨none, [(some 39, .ld (.t 38) 1 false)]⟩ (.op ⟨none, [(some 46, .mlk none (.t 44) (.t 45) (.string ⟨#[]⟩) false)]⟩ (.op ⟨none, [(some 47, .bld (.c (.s (.string ⟨#[]⟩)) (.c (.s (.string ⟨#[]⟩)) .u)) [(0, (.t 40)), (1, (.t 46))])]⟩ (.op ⟨none, [(some 48, .bldS 103 2 (.c (.s (.string ⟨#[]⟩)) (.c (.s (.string ⟨#[]⟩)) .u)) [(.t 47)])]⟩ (.op ⟨none, [(some 49, .app 103 2 32 (.c (.s (.string ⟨#[]⟩)) (.c (.s (.string ⟨#[]⟩)) .u)) (.t 39) (.t 48))]⟩ (.op ⟨none, [(some 50, .fldA (.t 6) 3 3)]⟩ (.op ⟨none, [(none, .st (.t 50) (.t 49) 1)]⟩ .done))))))) (.op ⟨none, [(some 46, .mlk none (.t 44) (.t 45) (.string ⟨#[]⟩) false)]⟩ (.op ⟨none, [(some 47, .bld (.c (.s (.string ⟨#[]⟩)) (.c (.s (.string ⟨#[]⟩)) .u)) [(0, (.t 40)), (1, (.t 46))])]⟩ (.or (.op ⟨none, [(some 39, .ld (.t 38) 1 false)]⟩ (.op ⟨none, [(some 48, .bldS 103 2 (.c (.s (.string ⟨#[]⟩)) (.c (.s (.string ⟨#[]⟩)) .u)) [(.t 47)])]⟩ (.op ⟨none, [(some 49, .app 103 2 32 (.c (.s (.string ⟨#[]⟩)) (.c (.s (.string ⟨#[]⟩)) .u)) (.t 39) (.t 48))]⟩ (.op ⟨none, [(some 50, .fldA (.t 6) 3 3)]⟩ (.op ⟨none, [(none, .st (.t 50) (.t 49) 1)]⟩ .done))))) (.op ⟨none, [(some 48, .bldS 103 2 (.c (.s (.string ⟨#[]⟩)) (.c (.s (.string ⟨#[]⟩)) .u)) [(.t 47)])]⟩ (.op ⟨none, [(some 39, .ld (.t 38) 1 false)]⟩ (.op ⟨none, [(some 49, .app 103 2 32 (.c (.s (.string ⟨#[]⟩)) (.c (.s (.string ⟨#[]⟩)) .u)) (.t 39) (.t 48))]⟩ (.op ⟨none, [(some 50, .fldA (.t 6) 3 3)]⟩ (.op ⟨none, [(none, .st (.t 50) (.t 49) 1)]⟩ .done))))))))))))))))) [4, 5, 6, 32, 33, 34])))
 (.rg [⟨none, [(some 51, .bin .add (.t 34) (.c (.int .i64 1))), (some 34, .mv (.t 51))]⟩] [4, 5, 6, 32, 33, 34]))))
def c_tree_Tree_told_R3 : Cd :=
 (.seq (.seq (.gh (.rg [⟨none, [(some 27, .mv (.t 5)), (some 28, .nilc (.t 27)), (some 29, .fldA (.t 28) 1 2), (some 30, .ld (.t 29) 1 false), (some 31, .call 68 [(.t 30)]), (some 32, .call 67 [(.t 31)]), (none, .gh), (some 33, .len (.t 32)), (some 34, .mv (.c (.int .i64 0)))]⟩] [4, 5, 6, 32, 33, 34]))
 (.block 0 (.loop c_tree_Tree_told_L0)))
 (.seq (.rg [⟨none, [(some 52, .ld (.t 6) 4 true), (none, .st (.t 4) (.t 52) 4)]⟩] [4])
 .ret))
def c_tree_Tree_told : Cd :=
 (.seq (.rg [⟨none, [(some 4, .new 62 (.c (.s (.int .i64 0)) (.c (.s (.int .i64 0)) (.c (.s (.string ⟨#[]⟩)) (.c (.s (.slice none 0 0)) .u)))))]⟩] [0, 1, 4])
 (.seq (.rg [⟨none, [(some 9, .mv (.t 0)), (some 10, .nilc (.t 9)), (some 11, .fldA (.t 10) 0 0), (some 12, .ld (.t 11) 1 false), (some 13, .mv (.t 1)), (some 14, .mlk (some .i64) (.t 12) (.t 13) (.pointer none) false), (some 5, .mv (.t 14))]⟩] [1, 4, 5])
 (.seq (.rga (.op ⟨none, [(some 15, .mv (.t 1))]⟩ (.op ⟨none, [(some 16, .mv (.t 5))]⟩ (.op ⟨none, [(some 17, .nilc (.t 16))]⟩ (.op ⟨none, [(some 18, .fldA (.t 17) 0 0)]⟩ (.op ⟨none, [(some 19, .fldA (.t 18) 0 0)]⟩ (.op ⟨none, [(some 21, .mv (.t 5))]⟩ (.op ⟨none, [(some 22, .nilc (.t 21))]⟩ (.op ⟨none, [(some 23, .fldA (.t 22) 0 0)]⟩ (.op ⟨none, [(some 24, .fldA (.t 23) 1 1)]⟩ (.or (.op ⟨none, [(some 20, .ld (.t 19) 1 false)]⟩ (.or (.op ⟨none, [(some 25, .ld (.t 24) 1 false)]⟩ (.op ⟨none, [(some 26, .bld (.c (.s (.int .i64 0)) (.c (.s (.int .i64 0)) (.c (.s (.string ⟨#[]⟩)) (.c (.s (.slice none 0 0)) .u)))) [(0, (.t 15)), (1, (.t 20)), (2, (.t 25))])]⟩ (.op ⟨none, [(some 6, .new 62 (.c (.s (.int .i64 0)) (.c (.s (.int .i64 0)) (.c (.s (.string ⟨#[]⟩)) (.c (.s (.slice none 0 0)) .u)))))]⟩ (.op ⟨none, [(none, .st (.t 6) (.t 26) 4)]⟩ .done)))) (.op ⟨none, [(some 6, .new 62 (.c (.s (.int .i64 0)) (.c (.s (.int .i64 0)) (.c (.s (.string ⟨#[]⟩)) (.c (.s (.slice none 0 0)) .u)))))]⟩ (.op ⟨none, [(some 25, .ld (.t 24) 1 false)]⟩ (.op ⟨none, [(some 26, .bld (.c (.s (.int .i64 0)) (.c (.s (.int .i64 0)) (.c (.s (.string ⟨#[]⟩)) (.c (.s (.slice none 0 0)) .u)))) [(0, (.t 15)), (1, (.t 20)), (2, (.t 25))])]⟩ (.op ⟨none, [(none, .st (.t 6) (.t 26) 4)]⟩ .done)))))) (.or (.op ⟨none, [(some 25, .ld (.t 24) 1 false)]⟩ (.or (.op ⟨none, [(some 20, .ld (.t 19) 1 false)]⟩ (.op ⟨none, [(some 26, .bld (.c (.s (.int .i64 0)) (.c (.s (.int .i64 0)) (.c (.s (.string ⟨#[]⟩)) (.c (.s (.slice none 0 0)) .u)))) [(0, (.t 15)), (1, (.t 20)), (2, (.t 25))])]⟩ (.op ⟨none, [(some 6, .new 62 (.c (.s (.int .i64 0)) (.c (.s (.int .i64 0)) (.c (.s (.string ⟨#[]⟩)) (.c (.s (.slice none 0 0)) .u)))))]⟩ (.op ⟨none, [(none, .st (.t 6) (.t 26) 4)]⟩ .done)))) (.op ⟨none, [(some 6, .new 62 (.c (.s (.int .i64 0)) (.c (.s (.int .i64 0)) (.c (.s (.string ⟨#[]⟩)) (.c (.s (.slice none 0 0)) .u)))))]⟩ (.op ⟨none, [(some 20, .ld (.t 19) 1 false)]⟩ (.op ⟨none, [(some 26, .bld (.c (.s (.int .i64 0)) (.c (.s (.int .i64 0)) (.c (.s (.string ⟨#[]⟩)) (.c (.s (.slice none 0 0)) .u)))) [(0, (.t 15)), (1, (.t 20)), (2, (.t 25))])]⟩ (.op ⟨none, [(none, .st (.t 6) (.t 26) 4)]⟩ .done)))))) (.op ⟨none, [(some 6, .new 62 (.c (.s (.int .i64 0)) (.c (.s (.int .i64 0)) (.c (.s (.string ⟨#[]⟩)) (.c (.s (.slice none 0 0)) .u)))))]⟩ (.or (.op ⟨none, [(some 20, .ld (.t 19) 1 false)]⟩ (.op ⟨none, [(some 25, .ld (.t 24) 1 false)]⟩ (.op ⟨none, [(some 26, .bld (.c (.s (.int .i64 0)) (.c (.s (.int .i64 0)) (.c (.s (.string ⟨#[]⟩)) (.c (.s (.slice none 0 0)) .u)))) [(0, (.t 15)), (1, (.t 20)), (2, (.t 25))])]⟩ (.op ⟨none, [(none, .st (.t 6) (.t 26) 4)]⟩ .done)))) (.op ⟨none, [(some 25, .ld (.t 24) 1 false)]⟩ (.op ⟨none, [(some 20, .ld (.t 19) 1 false)]⟩ (.op ⟨none, [(some 26, .bld (.c (.s (.int .i64 0)) (.c (.s (.int .i64 0)) (.c (.s (.string ⟨#[]⟩)) (.c (.s (.slice none 0 0)) .u)))) [(0, (.t 15)), (1, (.t 20)), (2, (.t 25))])]⟩ (.op ⟨none, [(none, .st (.t 6) (.t 26) 4)]⟩ .done))))))))))))))))) [4, 5, 6])
 c_tree_Tree_told_R3)))
theorem k_tree_Tree_told : Ok Try.prog 37 c_tree_Tree_told 53 [(2, 999999), (6, 999999)] [.cell 4 4 true] := Ok.mk' Try.func37 (by kernel_rfl) (by kernel_rfl) (by kernel_rfl)

abbrev f_tree_Tree_Nodes : Nat := 13
def c_tree_Tree_Nodes_L0 : Cd :=
 (.seq (.rg [⟨none, [(some 17, .bin .lss (.t 16) (.t 15))]⟩] [0, 3, 14, 15, 16, 17])
 (.seq (.ite (.t 17)
 .skip
 (.exit 0))
 (.seq (.block 1 (.seq (.rg [⟨none, [(some 18, .idxS (.t 14) (.t 16) 1), (some 19, .ld (.t 18) 1 false), (some 5, .mv (.t 19))]⟩] [0, 3, 5, 14, 15, 16])
 (.seq (.rg [⟨none, [(some 20, .mv (.t 0)), (some 21, .mv (.t 5)), (some 22, .call 37 [(.t 20), (.t 21)]), (some 6, .new 62 (.c (.s (.int .i64 0)) (.c (.s (.int .i64 0)) (.c (.s (.string ⟨#[]⟩)) (.c (.s (.slice none 0 0)) .u))))), (none, .st (.t 6) (.t 22) 4)]⟩] [0, 3, 5, 6, 14, 15, 16])
 (.seq (.rg [⟨none, [(some 23, .mv (.t 5)), (some 24, .call 38 [(.t 23)]), (some 25, .un .not (.t 24)), (some 26, .mv (.t 25))]⟩, ⟨some (26, false), [(some 27, .fldA (.t 6) 3 3), (some 28, .ld (.t 27) 1 false), (some 29, .len (.t 28)), (some 30, .bin .gtr (.t 29) (.c (.int .i64 0)))]⟩, ⟨none, [(some 31, .pick (.t 26) (.c (.bool true)) (.t 30))]⟩] [0, 3, 6, 14, 15, 16, 31])
 (.ite (.t 31)
 (.rg [⟨none, [(some 32, .mv (.t 3)), (some 33, .ld (.t 6) 4 true), (some 34, .bldS 62 4 (.c (.s (.int .i64 0)) (.c (.s (.int .i64 0)) (.c (.s (.string ⟨#[]⟩)) (.c (.s (.slice none 0 0)) .u)))) [(.t 33)]), (some 35, .app 62 4 56 (.c (.s (.int .i64 0)) (.c (.s (.int .i64 0)) (.c (.s (.string ⟨#[]⟩)) (.c (.s (.slice none 0 0)) .u)))) (.t 32) (.t 34)), (some 3, .mv (.t 35))]⟩] [0, 3, 14, 15, 16])
 .skip)))))
 (.rg [⟨none, [(some 36, .bin .add (.t 16) (.c (.int .i64 1))), (some 16, .mv (.t 36))]⟩] [0, 3, 14, 15, 16]))))
def c_tree_Tree_Nodes : Cd :=
 (.seq (.rg [⟨none, [(some 2, .mv (.c (.slice none 0 0)))]⟩] [0])
 (.seq (.seq (.rg [⟨none, [(some 7, .mv (.t 0)), (some 8, .call 34 [(.t 7)])]⟩] [0, 8])
 (.ite (.t 8)
 (.seq (.rg [⟨none, [(some 2, .mv (.c (.slice none 0 0)))]⟩] [2])
 .ret)
 .skip))
 (.seq (.rg [⟨none, [(some 3, .mv (.c (.slice none 0 0)))]⟩] [0, 3])
 (.seq (.seq (.rg [⟨none, [(none, .gh), (some 9, .mv (.t 0)), (some 10, .nilc (.t 9)), (some 11, .fldA (.t 10) 0 0), (some 12, .ld (.t 11) 1 false), (some 13, .call 36 [(.t 12)]), (some 14, .call 35 [(.t 13)]), (none, .gh), (some 15, .len (.t 14)), (some 16, .mv (.c (.int .i64 0)))]⟩] [0, 3, 14, 15, 16])
 (.block 0 (.loop c_tree_Tree_Nodes_L0)))
 (.seq (.rg [⟨none, [(some 37, .mv (.t 3)), (some 2, .mv (.t 37)), (none, .gh)]⟩] [2])
 .ret)))))
theorem k_tree_Tree_Nodes : Ok Try.prog 13 c_tree_Tree_Nodes 38 [] [.tmp 2] := Ok.mk' Try.func13 (by kernel_rfl) (by kernel_rfl) (by kernel_rfl)

abbrev f_tree_Same : Nat := 18
def c_tree_Same : Cd :=
 (.seq (.rg [⟨none, [(some 4, .mv (.c (.bool false)))]⟩] [0, 1])
 (.seq (.rg [⟨none, [(some 5, .mv (.t 0)), (some 6, .mv (.t 1)), (some 7, .call 44 [(.t 5), (.t 6), (.c (.func (.func 45) #[] #[]))]), (some 4, .mv (.t 7))]⟩] [4])
 .ret))
theorem k_tree_Same : Ok Try.prog 18 c_tree_Same 8 [] [.tmp 4] := Ok.mk' Try.func18 (by kernel_rfl) (by kernel_rfl) (by kernel_rfl)

abbrev f_tree_Same_1 : Nat := 45
def c_tree_Same_1 : Cd :=
 (.seq (.rg [⟨none, [(some 2, .box 62 (.t 0)), (some 3, .box 62 (.t 1)), (some 4, .mv (.c (.bool false)))]⟩] [2, 3])
 (.seq (.rg [⟨none, [(some 5, .fldA (.t 2) 0 0), (some 6, .ld (.t 5) 1 false), (some 7, .fldA (.t 3) 0 0), (some 8, .ld (.t 7) 1 false), (some 9, .bin .eql (.t 6) (.t 8)), (some 10, .mv (.t 9))]⟩, ⟨some (10, true), [(some 11, .fldA (.t 2) 1 1), (some 12, .ld (.t 11) 1 false), (some 13, .fldA (.t 3) 1 1), (some 14, .ld (.t 13) 1 false), (some 15, .bin .eql (.t 12) (.t 14))]⟩, ⟨none, [(some 16, .pick (.t 10) (.t 15) (.c (.bool false))), (some 17, .mv (.t 16))]⟩, ⟨some (17, true), [(some 18, .fldA (.t 2) 2 2), (some 19, .ld (.t 18) 1 false), (some 20, .fldA (.t 3) 2 2), (some 21, .ld (.t 20) 1 false), (some 22, .bin .eql (.t 19) (.t 21))]⟩, ⟨none, [(some 23, .pick (.t 17) (.t 22) (.c (.bool false))), (some 24, .mv (.t 23))]⟩, ⟨some (24, true), [(some 25, .fldA (.t 2) 3 3), (some 26, .ld (.t 25) 1 false), (some 27, .fldA (.t 3) 3 3), (some 28, .ld (.t 27) 1 false), (some 29, .call 46 [(.t 26), (.t 28)])]⟩, ⟨none, [(some 30, .pick (.t 24) (.t 29) (.c (.bool false))), (some 4, .mv (.t 30))]⟩] [4])
 .ret))
theorem k_tree_Same_1 : Ok Try.prog 45 c_tree_Same_1 31 [] [.tmp 4] := Ok.mk' Try.func45 (by kernel_rfl) (by kernel_rfl) (by kernel_rfl)

abbrev f_slices_EqualFunc : Nat := 44
def c_slices_EqualFunc_L0 : Cd :=
 (.seq (.rg [⟨none, [(some 18, .bin .lss (.t 17) (.t 16))]⟩] [1, 2, 15, 16, 17, 18])
 (.seq (.ite (.t 18)
 .skip
 (.exit 0))
 (.seq (.block 1 (.seq (.rg [⟨none, [(some 19, .mv (.t 17)), (some 20, .idxS (.t 15) (.t 17) 4), (some 21, .ld (.t 20) 4 true), (some 8, .new 62 (.c (.s (.int .i64 0)) (.c (.s (.int .i64 0)) (.c (.s (.string ⟨#[]⟩)) (.c (.s (.slice none 0 0)) .u))))), (some 7, .mv (.t 19)), (none, .st (.t 8) (.t 21) 4)]⟩] [1, 2, 7, 8, 15, 16, 17])
 (.seq (.rg [⟨none, [(some 22, .mv (.t 1)), (some 23, .mv (.t 7)), (some 24, .idxS (.t 22) (.t 23) 4), (some 25, .ld (.t 24) 4 true), (some 9, .new 62 (.c (.s (.int .i64 0)) (.c (.s (.int .i64 0)) (.c (.s (.string ⟨#[]⟩)) (.c (.s (.slice none 0 0)) .u))))), (none, .st (.t 9) (.t 25) 4)]⟩] [1, 2, 8, 9, 15, 16, 17])
 (.seq (.rg [⟨none, [(some 26, .mv (.t 2)), (some 27, .ld (.t 8) 4 true), (some 28, .ld (.t 9) 4 true), (some 29, .callV (.t 26) [(.t 27), (.t 28)]), (some 30, .un .not (.t 29))]⟩] [1, 2, 15, 16, 17, 30])
 (.ite (.t 30)
 (.seq (.rg [⟨none, [(some 6, .mv (.c (.bool false)))]⟩] [6])
 .ret)
 .skip)))))
 (.rg [⟨none, [(some 31, .bin .add (.t 17) (.c (.int .i64 1))), (some 17, .mv (.t 31))]⟩] [1, 2, 15, 16, 17]))))
def c_slices_EqualFunc : Cd :=
 (.seq (.rg [⟨none, [(some 6, .mv (.c (.bool false)))]⟩] [0, 1, 2])
 (.seq (.seq (.rg [⟨none, [(some 10, .mv (.t 0)), (some 11, .len (.t 10)), (some 12, .mv (.t 1)), (some 13, .len (.t 12)), (some 14, .bin .neq (.t 11) (.t 13))]⟩] [0, 1, 2, 14])
 (.ite (.t 14)
 (.seq (.rg [⟨none, [(some 6, .mv (.c (.bool false)))]⟩] [6])
 .ret)
 .skip))
 (.seq (.seq (.rg [⟨none, [(some 15, .mv (.t 0)), (some 16, .len (.t 15)), (some 17, .mv (.c (.int .i64 0)))]⟩] [1, 2, 15, 16, 17])
 (.block 0 (.loop c_slices_EqualFunc_L0)))
 (.seq (.rg [⟨none, [(some 6, .mv (.c (.bool true)))]⟩] [6])
 .ret))))
theorem k_slices_EqualFunc : Ok Try.prog 44 c_slices_EqualFunc 32 [] [.tmp 6] := Ok.mk' Try.func44 (by kernel_rfl) (by kernel_rfl) (by kernel_rfl)

abbrev f_slices_Equal : Nat := 46
def c_slices_Equal_L0 : Cd :=
 (.seq (.rg [⟨none, [(some 14, .bin .lss (.t 13) (.t 12))]⟩] [0, 1, 12, 13, 14])
 (.seq (.ite (.t 14)
 .skip
 (.exit 0))
 (.seq (.block 1 (.seq (.rg [⟨none, [(some 15, .mv (.t 13)), (some 5, .mv (.t 15))]⟩] [0, 1, 5, 12, 13])
 (.seq (.rgq [⟨none, [(some 16, .mv (.t 0)), (some 17, .mv (.t 5)), (some 18, .idxS (.t 16) (.t 17) 2), (some 19, .ld (.t 18) 2 true), (some 20, .mv (.t 1)), (some 21, .mv (.t 5)), (some 22, .idxS (.t 20) (.t 21) 2), (some 23, .ld (.t 22) 2 true)]⟩] [⟨none, [(some 24, .eqA true 103 (.t 19) (.t 23))]⟩] [0, 1, 12, 13, 24])
 (.ite (.t 24)
 (.seq (.rg [⟨none, [(some 4, .mv (.c (.bool false)))]⟩] [4])
 .ret)
 .skip))))
 (.rg [⟨none, [(some 25, .bin .add (.t 13) (.c (.int .i64 1))), (some 13, .mv (.t 25))]⟩] [0, 1, 12, 13]))))
def c_slices_Equal : Cd :=
 (.seq (.rg [⟨none, [(some 4, .mv (.c (.bool false)))]⟩] [0, 1])
 (.seq (.seq (.rg [⟨none, [(some 6, .mv (.t 0)), (some 7, .len (.t 6)), (some 8, .mv (.t 1)), (some 9, .len (.t 8)), (some 10, .bin .neq (.t 7) (.t 9))]⟩] [0, 1, 10])
 (.ite (.t 10)
 (.seq (.rg [⟨none, [(some 4, .mv (.c (.bool false)))]⟩] [4])
 .ret)
 .skip))
 (.seq (.seq (.rg [⟨none, [(some 11, .mv (.t 0)), (some 12, .len (.t 11)), (some 13, .mv (.c (.int .i64 0)))]⟩] [0, 1, 12, 13])
 (.block 0 (.loop c_slices_Equal_L0)))
 (.seq (.rg [⟨none, [(some 4, .mv (.c (.bool true)))]⟩] [4])
 .ret))))
theorem k_slices_Equal : Ok Try.prog 46 c_slices_Equal 26 [(6, 8)] [.tmp 4] := Ok.mk' Try.func46 (by kernel_rfl) (by kernel_rfl) (by kernel_rfl)

end Go.Proofs.Ytdpknchgoeboaaa.Vc

/- A node as it is told; all nodes. -/
set_option linter.unusedVariables false
set_option linter.unusedSimpArgs false
set_option maxRecDepth 100000
namespace Go.Proofs.Ytdpknchgoeboaaa.Vc
open Go Go.Proofs

def attrKeys (x : PN) : List (List UInt8) := sortB (x.attrs.map fun p => p.1.data.toList)
def attrsOf (x : PN) : List Attr := (attrKeys x).map fun k => ⟨mkS k, (getS x.attrs (mkS k)).getD ⟨#[]⟩⟩
/-- No attribute is too great to be told. -/
def PN.small (x : PN) : Prop := x.attrs.length * 32 ≤ 140737488355328 ∧ ∀ p ∈ x.attrs, p.1.size ≤ 140737488355328

theorem told_spec (w : World) (u : PH) (hu : u.le w) (L : Lay) (T : PT) (hT : TM u L T) (n : Int) (x : PN) (hx : T.get n = some x) (hsm : x.small) :
    Spec Try.prog f_tree_Tree_told [ptr (L .t), .int .i64 n] PH.no w fun rs m' => ∃ v, rs = [gTreeNode ⟨n, x.parent, x.name, v⟩] ∧ SlO m' v 103 2 ((attrsOf x).map gAttr) := by
  refine spec_of k_tree_Tree_told [.g (.s (ptr (L .t))), .g (.s (.int .i64 n))] (by simp) (by simp [AV.ok, GV.ok, Value.oneCell', ptr]) ?_
  have hk : ∀ {l : List PH}, KN (⟨Try.prog, 53, w, PH.no⟩ : Ctx).u0 l u := kn_u hu
  obtain ⟨hs1, hs2⟩ := hsm
  have hkt : ((rawA x.attrs).map keyT) = x.attrs.map fun p => p.1.data.toList := by simp [rawA, keyT, Function.comp_def]
  have tail : ∀ σ : SS, Ge σ ⟨[(4, .ref 4 []), (5, .g (.s (.pointer (some ⟨L (.nd n), 0, none⟩)))), (6, .ref 6 [])], [(4, .box (gTreeNode zTreeNode)), (6, .box (gTreeNode ⟨n, x.parent, x.name, zTreeNode.attrs⟩))], [], PH.no⟩ →
      vc ⟨Try.prog, 53, w, PH.no⟩ c_tree_Tree_told_R3 (finQ ⟨Try.prog, 53, w, PH.no⟩ [.cell 4 4 true] fun rs m' => ∃ v, rs = [gTreeNode ⟨n, x.parent, x.name, v⟩] ∧ SlO m' v 103 2 ((attrsOf x).map gAttr)) σ := by
    intro σ hσ
    unfold c_tree_Tree_told_R3
    rw [vc_seq, vc_seq]
    refine vc_gh_of_ge hσ ?_
    simp (maxSteps := 2000000) only [vc_rg, segs_n, ops_cons, vcOp, ev, look, put_mk, Nat.reduceEqDiff, ↓reduceIte, Nat.zero_add]
    refine ld_of _ (hT.s_node hk hx).2.2.1 rfl ?_
    simp (maxSteps := 2000000) only [ops_cons, vcOp, put_mk]
    refine call_frzm rfl rfl (Q := KeysQ fKeysT1 (L (.ab n))) (fun w' vs hv hw _ _ => ?_) fun rs m1 _ hq => ?_
    · obtain ⟨vs, rfl, _, hv⟩ := argsV_g hv
      obtain rfl := argsV_nil hv
      exact keysT_spec w' (L (.ab n))
    obtain ⟨bm, e, rfl, hbm⟩ := hq
    simp (maxSteps := 2000000) only [retS, ops_cons, vcOp, put_mk]
    obtain ⟨o, idsV, h1, h2⟩ := hT.at (.ab n) ⟨x, hx⟩
    refine call_frzm rfl rfl (Q := fun rs m' => ∃ v, rs = [.s v] ∧ SlO m' v 9 1 ((attrKeys x).map gN)) (fun w' vs hv hw hph _ => ?_) fun rs m2 _ hq => ?_
    · obtain ⟨vs, rfl, _, hv⟩ := argsV_g hv
      obtain rfl := argsV_nil hv
      have hm1 := hph m1 (by simp)
      have := sortedT_spec w' (L (.ab n)) bm e (0, 0) o (rawA x.attrs) w'.ph (fun _ _ h => h) (hm1 _ _ hbm) (hw _ _ (by rw [u0_no]; exact hu _ _ h1)) (h2 x hx) (fun p hp => by
        obtain ⟨q, hq, rfl⟩ := List.mem_map.1 hp
        have := hs2 q hq
        simp only [keyT, Array.length_toList]
        unfold maxLen
        have e : q.1.data.size = q.1.size := rfl
        omega) (by simp [rawA]; omega)
      rw [hkt] at this
      exact this
    obtain ⟨v0, rfl, hv0⟩ := hq
    simp (maxSteps := 2000000) only [retS, ops_cons, vcOp, put_mk]
    refine gh_rk 32 32 (.s (.string ⟨#[]⟩)) rfl rfl hv0.toR (KN.mem (by simp)) ?_
    simp (maxSteps := 2000000) only [List.length_map, vc_block, thenQ_n, kKeep_eq, segs_nil, ops_nil, ops_cons, vcOp, ev, look, put_mk, keep_mk, keepL, Value.oneCell', cond_true, Nat.reduceEqDiff, ↓reduceIte, List.length_map, List.length_map]
    have hlen : (attrKeys x).length = x.attrs.length := by simp [attrKeys, sortB]
    have hlenA : (attrsOf x).length = (attrKeys x).length := by simp [attrsOf]
    refine vc_loop (ι := Nat × Value × PH) (fun q => ⟨[(4, .ref 4 []), (5, .g (.s (.pointer (some ⟨L (.nd n), 0, none⟩)))), (6, .ref 6 []), (32, .row 32 0 ((attrKeys x).length)), (33, .g (.s (.int .i64 ((attrKeys x).length)))), (34, .g (.s (.int .i64 (q.1))))], [(32, .ro 1 (.s (.string ⟨#[]⟩)) ((attrKeys x).map gN)), (4, .box (gTreeNode zTreeNode)), (6, .box (gTreeNode ⟨n, x.parent, x.name, q.2.1⟩))], [m2, m1], q.2.2⟩)
      (fun q => q.1 ≤ (attrKeys x).length ∧ SlO q.2.2 q.2.1 103 2 (((attrsOf x).take q.1).map gAttr)) (fun q => (attrKeys x).length - q.1) (0, .slice none 0 0, PH.no) ⟨by simp, ⟨fun x hx => by simp at hx, .inl ⟨rfl, by simp⟩⟩⟩ (ge_of ?_ ?_ rfl rfl rfl) ?_
    · simp [frIn, look]
    · simp [pvIn, look]; rfl
    rintro ⟨i, v, mA⟩ ⟨hi, hvA⟩
    simp only at hi hvA
    generalize hQ : loopQ _ _ _ _ _ = Q
    simp (maxSteps := 2000000) only [c_tree_Tree_told_L0, vc_skip, vc_exit, vc_seq, vc_block, vc_rg, vc_rga, vc_ite, thenQ_n, thenQ_e, kKeep_eq, segs_nil, segs_n, ops_nil, ops_cons, ot_op, ot_or, vcOp, ev, look, put_mk, keep_mk, keepL, rowE, rowD, binV, binC, GV.getT, Nat.reduceEqDiff, ↓reduceIte, List.nil_append, Nat.zero_add, Bool.true_and, Bool.not_false, true_and, Int.toNat_natCast, decide_eq_true_eq, decide_eq_false_iff_not, br_t, getT_nil, fits_s, gTreeNode_fld3, gTreeNode_get3, getD_gN]
    refine ⟨fun hlt => ⟨⟨by omega, by omega⟩, ?_⟩, fun hge => ?_⟩
    · have hta : ((attrsOf x).take (i + 1)).map gAttr = ((attrsOf x).take i).map gAttr ++ [gAttr ⟨mkS ((attrKeys x).getD i []), (getS x.attrs (mkS ((attrKeys x).getD i []))).getD ⟨#[]⟩⟩] := by
        rw [List.take_add_one, List.map_append]
        congr 1
        rw [attrsOf, List.getElem?_map, List.getD_eq_getElem?_getD, List.getElem?_eq_getElem (by omega)]
        rfl
      have hbd : (((((attrsOf x).take i).map gAttr)).length + 1) * 32 ≤ 140737488355328 := by
        rw [List.length_map, List.length_take]
        omega
      repeat' (first
        | (refine ld_of _ (hT.s_node hk hx).2.2.1 rfl ?_; simp (maxSteps := 2000000) only [gAttr_zero, segs_nil, segs_n, ops_nil, ops_cons, ot_op, ot_or, vcOp, ev, look, put_mk, GV.getT, Nat.reduceEqDiff, ↓reduceIte, Bool.true_and, Bool.not_false, true_and, fits_s, gTreeNode_get3])
        | (refine hT.lkA hk hx ?_; simp (maxSteps := 2000000) only [segs_nil, segs_n, ops_nil, ops_cons, ot_op, ot_or, vcOp, ev, evL, gvL, look, updL, put_mk, rowE, GV.getT, GV.same, Nat.reduceEqDiff, ↓reduceIte, Nat.zero_add, Bool.and_true, Bool.true_and, Bool.not_false, true_and, and_true, List.map_cons, List.map_nil, Option.map_some, szAll, List.length_cons, List.length_nil, List.drop_zero, List.take_succ_cons, List.take_zero, GV.bldT, GV.bldC, fits_s, gTreeNode_get3, gAttr_sz, gAttr_get0, gAttr_set0, gAttr_get1, gAttr_set1])
        | (refine app_of rfl rfl mA PH.no (((attrsOf x).take i).map gAttr) hvA (uni_no_r _).symm (dis_no_r _) hbd fun v' u' hv' hs' _ => ?_; simp (maxSteps := 2000000) only [uni_no_r, vc_rg, thenQ_n, blockQ_n, kKeep_eq, segs_nil, segs_n, ops_nil, ops_cons, ot_done, ot_op, vcOp, ev, look, updL, put_mk, put_mk0, keep_mk, keepL, binV, binC, GV.getT, GV.sz, GV.same, Value.oneCell', cond_true, Nat.reduceEqDiff, ↓reduceIte, List.nil_append, Bool.and_true, Bool.true_and, true_and, and_true, getT_nil, gTreeNode_fld3, gTreeNode_get3, gTreeNode_set3])
        | rfl
        | refine And.intro ?_ ?_)
      all_goals
        subst hQ; simp only [loopQ_n]; refine ⟨(i + 1, v', u'), ?_, ?_, ge_of ?_ ?_ rfl rfl rfl⟩
        · exact ⟨by simp only; omega, by simp only; rw [hta]; exact hs'⟩
        · simp only; omega
        · simp only [frIn, look, Nat.reduceEqDiff, ↓reduceIte, Bool.and_true, Bool.true_and, true_and, and_true]
          rw [wrap_n (by omega)]
          try simp
        · simp [pvIn, look]
    · subst hQ
      simp (maxSteps := 2000000) only [vc_ret, vc_seq, vc_rg, thenQ_n, blockQ_e, kKeep_eq, loopQ_e, finQ_r, segs_nil, segs_n, ops_nil, ops_cons, vcOp, ev, look, updL, put_mk, put_mk0, keep_mk, keepL, Nat.reduceEqDiff, ↓reduceIte, Bool.and_true, Bool.true_and, true_and, and_true, getT_nil, setT_nil, gTreeNode_sz, gTreeNode_fits, gTreeNode_same]
      have hfull : (attrsOf x).take i = attrsOf x := List.take_of_length_le (by omega)
      rw [hfull] at hvA
      exact fin_m (rs := [gTreeNode ⟨n, x.parent, x.name, v⟩]) _ rfl (fun _ _ h => h) ⟨v, rfl, hvA⟩
  simp (maxSteps := 2000000) only [c_tree_Tree_told, vc_seq, vc_rg, thenQ_n, kKeep_eq, segs_nil, segs_n, ops_nil, ops_cons, vcOp, ev, look, updL, put_mk, keep_mk, keepL, Nat.reduceEqDiff, ↓reduceIte, reduceCtorEq, Nat.zero_add, Nat.add_zero, Bool.true_and, true_and, initF, initP, gTreeNode_zero, ptr]
  refine ld_of _ (hT.s_map hk) rfl ?_
  simp (maxSteps := 2000000) only [ops_cons, vcOp, ev, look, put_mk, Nat.reduceEqDiff, ↓reduceIte, reduceCtorEq]
  refine hT.lk hk n ?_
  rw [hx]
  simp (maxSteps := 2000000) only [vc_seq, vc_rga, thenQ_n, kKeep_eq, segs_nil, segs_n, ops_nil, ops_cons, ot_op, ot_or, vcOp, ev, look, updL, put_mk, keep_mk, keepL, Nat.reduceEqDiff, ↓reduceIte, reduceCtorEq, Nat.zero_add, Nat.add_zero, Bool.true_and, true_and, nptr_some]
  repeat' (first
    | (refine ld_of _ (hT.s_node hk hx).1 rfl ?_; simp (maxSteps := 2000000) only [thenQ_n, kKeep_eq, segs_nil, segs_n, ops_nil, ops_cons, ot_done, ot_op, ot_or, vcOp, ev, evL, gvL, look, updL, put_mk, put_mk0, keep_mk, keepL, GV.getT, GV.same, Nat.reduceEqDiff, ↓reduceIte, Bool.and_true, Bool.true_and, true_and, and_true, List.map_cons, List.map_nil, Option.map_some, GV.bldT, GV.bldC, same_int, getT_nil, setT_nil, gTreeNode_sz, gTreeNode_same, gTreeNode_get0, gTreeNode_set0, gTreeNode_get1, gTreeNode_set1, gTreeNode_get2, gTreeNode_set2])
    | (refine ld_of _ (hT.s_node hk hx).2.1 rfl ?_; simp (maxSteps := 2000000) only [thenQ_n, kKeep_eq, segs_nil, segs_n, ops_nil, ops_cons, ot_done, ot_op, ot_or, vcOp, ev, evL, gvL, look, updL, put_mk, put_mk0, keep_mk, keepL, GV.getT, GV.same, Nat.reduceEqDiff, ↓reduceIte, Bool.and_true, Bool.true_and, true_and, and_true, List.map_cons, List.map_nil, Option.map_some, GV.bldT, GV.bldC, same_int, getT_nil, setT_nil, gTreeNode_sz, gTreeNode_same, gTreeNode_get0, gTreeNode_set0, gTreeNode_get1, gTreeNode_set1, gTreeNode_get2, gTreeNode_set2])
    | rfl
    | (refine tail _ (ge_of ?_ ?_ rfl rfl rfl); · simp [frIn, look]
       · simp [pvIn, look])
    | refine And.intro ?_ ?_)
end Go.Proofs.Ytdpknchgoeboaaa.Vc

/- All nodes. -/
set_option linter.unusedVariables false
set_option linter.unusedSimpArgs false
set_option maxRecDepth 100000
namespace Go.Proofs.Ytdpknchgoeboaaa.Vc
open Go Go.Proofs

/-- A node as it is told. -/
structure TN where
  node : Int
  parent : Int
  name : ByteArray
  attrs : List Attr
def toldOf (n : Int) (x : PN) : TN := ⟨n, x.parent, x.name, attrsOf x⟩
def nodesK (T : PT) : List Int := sortZ (T.nodes.map (·.1))
def TN.shown (t : TN) : Bool := !topB t.node || decide (t.attrs.length > 0)
def toldL (T : PT) (l : List Int) : List TN := (l.filterMap fun n => (T.get n).map fun x => toldOf n x).filter TN.shown
def nodesTold (T : PT) : List TN := toldL T (nodesK T)

def TsOk (m : PH) : List TreeNode → List TN → Prop
  | [], [] => True
  | t :: ts, a :: r => (t.node = a.node ∧ t.parent = a.parent ∧ t.name = a.name ∧ SlR m t.attrs 2 (a.attrs.map gAttr)) ∧ TsOk m ts r
  | _, _ => False
theorem TsOk.len {m : PH} : ∀ {ts : List TreeNode} {l : List TN}, TsOk m ts l → ts.length = l.length
  | [], [], _ => rfl
  | _ :: _, _ :: _, h => by simp [h.2.len]
  | [], _ :: _, h => h.elim
  | _ :: _, [], h => h.elim
theorem TsOk.up {m m' : PH} (hs : PH.sub m m') : ∀ {ts : List TreeNode} {l : List TN}, TsOk m ts l → TsOk m' ts l
  | [], [], _ => trivial
  | _ :: _, _ :: _, h => ⟨⟨h.1.1, h.1.2.1, h.1.2.2.1, h.1.2.2.2.up hs⟩, h.2.up hs⟩
  | [], _ :: _, h => h.elim
  | _ :: _, [], h => h.elim
theorem TsOk.snoc {m : PH} {t : TreeNode} {a : TN} (ht : t.node = a.node ∧ t.parent = a.parent ∧ t.name = a.name ∧ SlR m t.attrs 2 (a.attrs.map gAttr)) : ∀ {ts : List TreeNode} {l : List TN}, TsOk m ts l → TsOk m (ts ++ [t]) (l ++ [a])
  | [], [], _ => ⟨ht, trivial⟩
  | _ :: _, _ :: _, h => ⟨h.1, h.2.snoc ht⟩
  | [], _ :: _, h => h.elim
  | _ :: _, [], h => h.elim

/-- A tree that can be told. -/
structure PT.tells (T : PT) : Prop where
  few : T.nodes.length * 56 ≤ 140737488355328
  keys : ∀ n x, T.get n = some x → (Lit.int .i64 n).wf = true
  small : ∀ n x, T.get n = some x → x.small
theorem mem_nodesK {T : PT} {n : Int} (h : n ∈ nodesK T) : ∃ x, T.get n = some x := by
  have h1 : n ∈ T.nodes.map (·.1) := (List.mergeSort_perm _ _).mem_iff.1 h
  cases hg : T.get n with
  | none => exact absurd h1 (getA_none.1 hg)
  | some x => exact ⟨x, rfl⟩

theorem Nodes_spec (w : World) (u : PH) (hu : u.le w) (L : Lay) (T : PT) (hT : TM u L T) (hok : T.tells) :
    Spec Try.prog f_tree_Tree_Nodes [ptr (L .t)] PH.no w fun rs m' => ∃ v ts, rs = [.s v] ∧ SlR m' v 4 (ts.map gTreeNode) ∧ TsOk m' ts (nodesTold T) := by
  refine spec_of k_tree_Tree_Nodes [.g (.s (ptr (L .t)))] (by simp) (by simp [AV.ok, GV.ok, Value.oneCell', ptr]) ?_
  have hk : ∀ {l : List PH}, KN (⟨Try.prog, 38, w, PH.no⟩ : Ctx).u0 l u := kn_u hu
  have hkl : (nodesK T).length = T.nodes.length := by simp [nodesK, sortZ]
  have hfew := hok.few
  simp (maxSteps := 2000000) only [c_tree_Tree_Nodes, vc_seq, vc_rg, thenQ_n, kKeep_eq, segs_nil, segs_n, ops_nil, ops_cons, vcOp, ev, look, put_mk, keep_mk, keepL, Value.oneCell', cond_true, ↓reduceIte, reduceCtorEq, initF, initP, ptr]
  refine call_is _ [.s (.bool false)] rfl rfl (fun w' vs hv hw => ?_) ?_
  · obtain ⟨vs, rfl, _, hv⟩ := argsV_g hv
    obtain rfl := argsV_nil hv
    intro _
    exact none_spec (fun b o h => hw b o (by rw [u0_no]; exact hu b o h)) hT
  simp (maxSteps := 2000000) only [retS, vc_skip, vc_seq, vc_rg, vc_ite, thenQ_n, kKeep_eq, segs_nil, segs_n, ops_nil, ops_cons, vcOp, ev, look, put_mk, keep_mk, keepL, Value.oneCell', cond_true, ↓reduceIte, reduceCtorEq, ↓br_ft]
  refine gh_nil 3 3 62 4 (gTreeNode zTreeNode) rfl rfl ?_
  simp (maxSteps := 2000000) only [ops_cons, vcOp, ev, look, put_mk, ↓reduceIte, reduceCtorEq, Nat.add_zero]
  refine ld_of _ (hT.s_map hk) rfl ?_
  simp (maxSteps := 2000000) only [ops_cons, vcOp, put_mk]
  refine call_frzm rfl rfl (Q := KeysQ fKeysI1 (L .nb)) (fun w' vs hv hw _ _ => ?_) fun rs m1 _ hq => ?_
  · obtain ⟨vs, rfl, _, hv⟩ := argsV_g hv
    obtain rfl := argsV_nil hv
    exact keysI_spec w' (L .nb)
  obtain ⟨bm, e, rfl, hbm⟩ := hq
  simp (maxSteps := 2000000) only [retS, ops_cons, vcOp, put_mk]
  obtain ⟨o, idsV, h1, h2⟩ := hT.at .nb trivial
  have hkeys : (rawN L T.nodes).map keyI = T.nodes.map (·.1) := by simp [rawN, keyI, Function.comp_def]
  refine call_frzm rfl rfl (Q := fun rs m' => ∃ v, rs = [.s v] ∧ SlO m' v 2 1 ((nodesK T).map gi)) (fun w' vs hv hw hph _ => ?_) fun rs m2 _ hq => ?_
  · obtain ⟨vs, rfl, _, hv⟩ := argsV_g hv
    obtain rfl := argsV_nil hv
    have hm1 := hph m1 (by simp)
    have := sortedI_spec w' (L .nb) bm e (0, 0) o (rawN L T.nodes) w'.ph (fun _ _ h => h) (hm1 _ _ hbm) (hw _ _ (by rw [u0_no]; exact hu _ _ h1)) h2 (fun p hp => by
      obtain ⟨q, hq, rfl⟩ := List.mem_map.1 hp
      exact hok.keys q.1 q.2 (getA_of_mem hT.nod hq)) (by simp [rawN]; omega)
    rw [hkeys] at this
    exact this
  obtain ⟨v0, rfl, hv0⟩ := hq
  simp (maxSteps := 2000000) only [retS, ops_cons, vcOp, put_mk]
  refine gh_rk 14 14 (gi 0) rfl rfl hv0.toR (KN.mem (by simp)) ?_
  simp (maxSteps := 2000000) only [List.length_map, vc_block, thenQ_n, kKeep_eq, segs_nil, ops_nil, ops_cons, vcOp, ev, look, put_mk, keep_mk, keepL, Value.oneCell', cond_true, Nat.reduceEqDiff, ↓reduceIte, reduceCtorEq, List.length_map, List.length_map]
  refine vc_loop (ι := Nat × List TreeNode × PH) (fun q => ⟨[(0, .g (.s (.pointer (some ⟨L .t, 0, none⟩)))), (14, .row 14 0 ((nodesK T).length)), (15, .g (.s (.int .i64 ((nodesK T).length)))), (16, .g (.s (.int .i64 (q.1)))), (3, .row 3 0 (q.2.1.length))], [(14, .ro 1 (gi 0) ((nodesK T).map gi)), (3, .row 62 4 (gTreeNode zTreeNode) (q.2.1.map gTreeNode))], [m2, m1], q.2.2⟩)
    (fun q => q.1 ≤ (nodesK T).length ∧ q.2.1.length ≤ q.1 ∧ TsOk q.2.2 q.2.1 (toldL T ((nodesK T).take q.1))) (fun q => (nodesK T).length - q.1) (0, [], PH.no) ⟨by simp, by simp, trivial⟩ (ge_of ?_ ?_ rfl rfl rfl) ?_
  · simp [frIn, look]
  · simp [pvIn, look]
  rintro ⟨i, ts, mA⟩ ⟨hi, htl, hts⟩
  simp only at hi htl hts
  generalize hQ : loopQ _ _ _ _ _ = Q
  simp (maxSteps := 2000000) only [c_tree_Tree_Nodes_L0, getD_gi, vc_skip, vc_exit, vc_seq, vc_block, vc_rg, vc_ite, thenQ_n, thenQ_e, kKeep_eq, segs_nil, segs_n, ops_nil, ops_cons, vcOp, ev, look, put_mk, keep_mk, keepL, rowE, rowD, binV, binC, Nat.reduceEqDiff, ↓reduceIte, reduceCtorEq, Nat.zero_add, Bool.true_and, Bool.not_false, true_and, Int.toNat_natCast, decide_eq_true_eq, decide_eq_false_iff_not, br_t, getT_nil, getD_gi, fits_s, gTreeNode_zero]
  refine ⟨fun hlt => ⟨⟨by omega, by omega⟩, ?_⟩, fun hge => ?_⟩
  · obtain ⟨n, hn⟩ : ∃ n, (nodesK T).getD i 0 = n := ⟨_, rfl⟩
    have hmem : n ∈ nodesK T := by rw [← hn, List.getD_eq_getElem?_getD, List.getElem?_eq_getElem (by omega)]; exact List.getElem_mem _
    obtain ⟨x, hx⟩ := mem_nodesK hmem
    rw [hn]
    have hstep : toldL T ((nodesK T).take (i + 1)) = toldL T ((nodesK T).take i) ++ if (toldOf n x).shown = true then [toldOf n x] else [] := by
      rw [List.take_add_one]
      have e : (nodesK T)[i]?.toList = [n] := by
        rw [← hn, List.getD_eq_getElem?_getD, List.getElem?_eq_getElem (by omega)]; rfl
      rw [e]
      unfold toldL
      rw [List.filterMap_append, List.filter_append]
      congr 1
      simp only [List.filterMap_cons, hx, Option.map_some, List.filterMap_nil, List.filter_cons, List.filter_nil]
    refine call_ownm rfl rfl (Q := fun rs m' => ∃ v, rs = [gTreeNode ⟨n, x.parent, x.name, v⟩] ∧ SlO m' v 103 2 ((attrsOf x).map gAttr)) (fun w' vs hv hw _ _ => ?_) fun rs m3 _ hq hd3 => ?_
    · obtain ⟨vs, rfl, _, hv⟩ := argsV_g hv
      obtain ⟨vs, rfl, _, hv⟩ := argsV_g hv
      obtain rfl := argsV_nil hv
      exact told_spec w' u (fun b o h => hw b o (by rw [u0_no]; exact hu b o h)) L T hT n x hx (hok.small n x hx)
    obtain ⟨v, rfl, hv⟩ := hq
    obtain ⟨a, c, rfl⟩ : ∃ a c, v = .slice a (attrsOf x).length c := by
      rcases hv.2 with ⟨rfl, h3⟩ | ⟨ad, c, rfl, _⟩
      · have : attrsOf x = [] := by simpa using h3
        exact ⟨none, 0, by rw [this]; rfl⟩
      · exact ⟨some ad, c, by rw [List.length_map]⟩
    simp (maxSteps := 2000000) only [retS, vc_seq, vc_rg, thenQ_n, kKeep_eq, segs_nil, segs_n, ops_nil, ops_cons, vcOp, ev, look, updL, put_mk, put_mk0, keep_mk, keepL, Nat.reduceEqDiff, ↓reduceIte, reduceCtorEq, Bool.and_true, Bool.true_and, true_and, and_true, getT_nil, setT_nil, gTreeNode_sz, gTreeNode_same]
    refine call_fnv (top_fn n) rfl rfl rfl fun _ => ?_
    simp (maxSteps := 2000000) only [retS, vc_skip, vc_rg, vc_ite, thenQ_n, blockQ_n, kKeep_eq, segs_nil, segs_n, segs_g, ops_nil, ops_cons, vcOp, RO.isGh, skip_mk, skipL, ev, evL, gvL, look, updL, put_mk, keep_mk, keepL, rowE, binV, binC, unV, GV.getT, Value.oneCell', cond_true, cond_false, Nat.reduceEqDiff, Nat.reduceBEq, ↓reduceIte, reduceCtorEq, List.nil_append, Nat.zero_add, Bool.and_true, Bool.true_and, Bool.not_false, BEq.rfl, true_and, and_true, Option.map_some, szAll, List.length_cons, List.length_nil, decide_eq_true_eq, decide_eq_false_iff_not, kill, SV.mentions, ne_eq, not_false_eq_true, List.drop_zero, List.take_succ_cons, List.take_zero, ↓br_tt, ↓br_ft, br_t, br_f, getT_nil, List.length_map, fits_s, gTreeNode_sz, gTreeNode_fits, gTreeNode_fld3, gTreeNode_get3, List.length_map]
    have hup : TsOk (uni m3 mA) ts (toldL T ((nodesK T).take i)) := hts.up (sub_uni_r hd3)
    have hnew : TsOk (uni m3 mA) (ts ++ [⟨n, x.parent, x.name, .slice a (attrsOf x).length c⟩]) (toldL T ((nodesK T).take i) ++ [toldOf n x]) := hup.snoc ⟨rfl, rfl, rfl, hv.toR.up (sub_uni_l m3 mA)⟩
    have goS : (toldOf n x).shown = true → ∀ (fr : List (Nat × SV)) (pv : List (Nat × PV)), frIn fr [(0, .g (.s (.pointer (some ⟨L .t, 0, none⟩)))), (14, .row 14 0 ((nodesK T).length)), (15, .g (.s (.int .i64 ((nodesK T).length)))), (16, .g (.s (.int .i64 ((i + 1 : Nat))))), (3, .row 3 0 (ts.length + 1))] →
        pvIn pv [(14, .ro 1 (gi 0) ((nodesK T).map gi)), (3, .row 62 4 (gTreeNode zTreeNode) (ts.map gTreeNode ++ [gTreeNode ⟨n, x.parent, x.name, .slice a (attrsOf x).length c⟩]))] → Q .normal ⟨fr, pv, [m2, m1], uni m3 mA⟩ := by
      intro hs fr pv hfr hpv
      subst hQ; simp only [loopQ_n]
      refine ⟨(i + 1, ts ++ [⟨n, x.parent, x.name, .slice a (attrsOf x).length c⟩], uni m3 mA), ⟨by simp only; omega, by simp; omega, ?_⟩, ?_, ge_of ?_ ?_ rfl rfl rfl⟩
      · simp only; rw [hstep, if_pos hs]; exact hnew
      · simp only; omega
      · simpa using hfr
      · simpa using hpv
    have goN : (toldOf n x).shown = false → ∀ (fr : List (Nat × SV)) (pv : List (Nat × PV)), frIn fr [(0, .g (.s (.pointer (some ⟨L .t, 0, none⟩)))), (14, .row 14 0 ((nodesK T).length)), (15, .g (.s (.int .i64 ((nodesK T).length)))), (16, .g (.s (.int .i64 ((i + 1 : Nat))))), (3, .row 3 0 (ts.length))] →
        pvIn pv [(14, .ro 1 (gi 0) ((nodesK T).map gi)), (3, .row 62 4 (gTreeNode zTreeNode) (ts.map gTreeNode))] → Q .normal ⟨fr, pv, [m2, m1], uni m3 mA⟩ := by
      intro hs fr pv hfr hpv
      subst hQ; simp only [loopQ_n]
      refine ⟨(i + 1, ts, uni m3 mA), ⟨by simp only; omega, by simp only; omega, ?_⟩, ?_, ge_of hfr hpv rfl rfl rfl⟩
      · simp only; rw [hstep, hs]; simpa using hup
      · simp only; omega
    have hlA : (attrsOf x).length = (toldOf n x).attrs.length := rfl
    have hnn : n = (toldOf n x).node := rfl
    refine ⟨fun ht => ⟨fun hl => ⟨by omega, goS ?_ _ _ ?_ ?_⟩, fun hl => goN ?_ _ _ ?_ ?_⟩, fun ht => ⟨by omega, goS ?_ _ _ ?_ ?_⟩⟩
    · rw [TN.shown, topB, ← hnn, ← hlA, decide_eq_true (by omega)]; simp
    · simp only [frIn, look, Nat.reduceEqDiff, ↓reduceIte, reduceCtorEq, Bool.and_true, Bool.true_and, true_and, and_true]
      rw [wrap_n (by omega)]
      try simp
    · simp [pvIn, look]
    · rw [TN.shown, topB, ← hnn, ← hlA, ht, decide_eq_false (by omega)]; rfl
    · simp only [frIn, look, Nat.reduceEqDiff, ↓reduceIte, reduceCtorEq, Bool.and_true, Bool.true_and, true_and, and_true]
      rw [wrap_n (by omega)]
      try simp
    · simp [pvIn, look]
    · rw [TN.shown, topB, ← hnn, ht]; rfl
    · simp only [frIn, look, Nat.reduceEqDiff, ↓reduceIte, reduceCtorEq, Bool.and_true, Bool.true_and, true_and, and_true]
      rw [wrap_n (by omega)]
      try simp
    · simp [pvIn, look]
  · subst hQ
    simp (maxSteps := 2000000) only [vc_seq, vc_rg, thenQ_n, blockQ_e, loopQ_e, segs_n, ops_cons, vcOp, ev, look, put_mk, ↓reduceIte, reduceCtorEq]
    refine gh_pub 2 3 ts.length rfl rfl (by simp) fun v m5 hv5 ho5 hd5 => ?_
    simp (maxSteps := 2000000) only [vc_ret, thenQ_n, kKeep_eq, finQ_r, segs_nil, ops_nil, look, keep_mk, keepL, cond_true, cond_false, Nat.reduceBEq, ↓reduceIte, BEq.rfl, kill, SV.mentions]
    have hfull : (nodesK T).take i = nodesK T := List.take_of_length_le (by omega)
    rw [hfull] at hts
    exact fin_m (rs := [.s v]) _ rfl (fun _ _ h => h) ⟨v, ts, rfl, ho5.toR.up (sub_uni_l _ _), hts.up (sub_uni_r hd5)⟩
end Go.Proofs.Ytdpknchgoeboaaa.Vc

