/- A tree in memory. -/
import Derived.Test.YtdpknchgoeboaaaTst
import Derived.Test.YtdpknchgoeboaaaVd1
set_option linter.unusedVariables false
set_option linter.unusedSimpArgs false
namespace Go.Proofs.Ytdpknchgoeboaaa.Vc
open Go

/-! ### Lists by number, by text -/
section
variable {α : Type}
def getA : List (Int × α) → Int → Option α
  | [], _ => none
  | (k, x) :: l, n => if k = n then some x else getA l n
def modA (f : α → α) : List (Int × α) → Int → List (Int × α)
  | [], _ => []
  | (k, x) :: l, n => if k = n then (k, f x) :: l else (k, x) :: modA f l n
def delA : List (Int × α) → Int → List (Int × α)
  | [], _ => []
  | (k, x) :: l, n => if k = n then l else (k, x) :: delA l n
theorem getA_mod (f : α → α) : ∀ (l : List (Int × α)) (n j : Int), getA (modA f l n) j = if j = n then (getA l j).map f else getA l j
  | [], n, j => by simp [getA, modA]
  | (k, x) :: l, n, j => by
    by_cases h1 : k = n
    · subst h1
      by_cases h2 : k = j
      · subst h2; simp [getA, modA]
      · simp [getA, modA, h2, Ne.symm h2]
    · by_cases h2 : k = j
      · subst h2; simp [getA, modA, h1]
      · simp [getA, modA, h1, h2, getA_mod f l n j]
theorem keys_mod (f : α → α) : ∀ (l : List (Int × α)) (n : Int), (modA f l n).map (·.1) = l.map (·.1)
  | [], n => rfl
  | (k, x) :: l, n => by
    by_cases h1 : k = n <;> simp [modA, h1, keys_mod f l n]
theorem getA_app : ∀ (l r : List (Int × α)) (j : Int), getA (l ++ r) j = match getA l j with | some x => some x | none => getA r j
  | [], r, j => rfl
  | (k, x) :: l, r, j => by
    by_cases h : k = j
    · simp [getA, h]
    · simp [getA, h, getA_app l r j]
theorem getA_mem : ∀ {l : List (Int × α)} {j : Int} {x : α}, getA l j = some x → (j, x) ∈ l
  | [], j, x, h => by simp [getA] at h
  | (k, y) :: l, j, x, h => by
    by_cases hk : k = j
    · simp [getA, hk] at h; subst h; subst hk; simp
    · simp [getA, hk] at h; exact List.mem_cons_of_mem _ (getA_mem h)
theorem getA_none {l : List (Int × α)} {j : Int} : getA l j = none ↔ j ∉ l.map (·.1) := by
  induction l with
  | nil => simp [getA]
  | cons p l ih =>
    obtain ⟨k, x⟩ := p
    by_cases hk : k = j
    · simp [getA, hk]
    · simp only [getA, hk, if_false, List.map_cons, List.mem_cons, not_or, ih]
      exact ⟨fun h => ⟨fun e => hk e.symm, h⟩, fun h => h.2⟩
theorem getA_of_mem {l : List (Int × α)} (hn : (l.map (·.1)).Nodup) {j : Int} {x : α} (h : (j, x) ∈ l) : getA l j = some x := by
  induction l with
  | nil => simp at h
  | cons p l ih =>
    obtain ⟨k, y⟩ := p
    simp only [List.map_cons, List.nodup_cons] at hn
    rcases List.mem_cons.1 h with e | h
    · cases e; simp [getA]
    · have hk : k ≠ j := fun e => hn.1 (List.mem_map.2 ⟨(j, x), h, e.symm⟩)
      simp [getA, hk, ih hn.2 h]
theorem getA_del {l : List (Int × α)} (hn : (l.map (·.1)).Nodup) (n j : Int) : getA (delA l n) j = if j = n then none else getA l j := by
  induction l with
  | nil => simp [getA, delA]
  | cons p l ih =>
    obtain ⟨k, y⟩ := p
    simp only [List.map_cons, List.nodup_cons] at hn
    by_cases h1 : k = n
    · subst h1
      by_cases h2 : j = k
      · subst h2; simp only [delA, if_true]; exact getA_none.2 hn.1
      · simp [delA, getA, h2, Ne.symm h2]
    · by_cases h2 : k = j
      · subst h2; simp [delA, getA, h1]
      · simp [delA, getA, h1, h2, ih hn.2]
theorem keys_del : ∀ (l : List (Int × α)) (n : Int), (delA l n).map (·.1) = (l.map (·.1)).erase n
  | [], n => rfl
  | (k, x) :: l, n => by
    by_cases h1 : k = n
    · simp [delA, h1]
    · simp [delA, h1, keys_del l n]
end
def getS : List (ByteArray × ByteArray) → ByteArray → Option ByteArray
  | [], _ => none
  | (k, x) :: l, n => if k = n then some x else getS l n
def putS : List (ByteArray × ByteArray) → ByteArray → ByteArray → List (ByteArray × ByteArray)
  | [], n, y => [(n, y)]
  | (k, x) :: l, n, y => if k = n then (n, y) :: l else (k, x) :: putS l n y
def delS : List (ByteArray × ByteArray) → ByteArray → List (ByteArray × ByteArray)
  | [], _ => []
  | (k, x) :: l, n => if k = n then l else (k, x) :: delS l n
def putK (l : List Int) (n : Int) : List Int := if n ∈ l then l else l ++ [n]

/-! ### What a tree is, in the program -/
structure PN where
  parent : Int
  name : ByteArray
  attrs : List (ByteArray × ByteArray)
  kids : List Int
structure PT where
  nodes : List (Int × PN)
  ids : List Int
  last : Int
def PN.bare : PN := ⟨0, ⟨#[]⟩, [], []⟩
def PT.mod (T : PT) (k : Int) (f : PN → PN) : PT := { T with nodes := modA f T.nodes k }
def PT.get (T : PT) (k : Int) : Option PN := getA T.nodes k
theorem PT.get_mod (T : PT) (k : Int) (f : PN → PN) (j : Int) : (T.mod k f).get j = if j = k then (T.get j).map f else T.get j := getA_mod f T.nodes k j

inductive Role
  | t | nb | mk | nd (k : Int) | ab (k : Int) | kb (k : Int)
  deriving DecidableEq
abbrev Lay := Role → Nat
def ptr (b : Nat) : Value := .pointer (some ⟨b, 0, none⟩)
def rawN (L : Lay) (l : List (Int × PN)) : List (Value × Value) := l.map fun p => (.int .i64 p.1, ptr (L (.nd p.1)))
def rawA (l : List (ByteArray × ByteArray)) : List (Value × Value) := l.map fun p => (.string p.1, .string p.2)
def rawK (l : List Int) : List (Value × Value) := l.map fun k => (.int .i64 k, .int .i64 1)

theorem mget_rawN (L : Lay) : ∀ (l : List (Int × PN)) (n : Int), mget (rawN L l) (.int .i64 n) = (getA l n).map fun _ => ptr (L (.nd n))
  | [], n => rfl
  | (k, x) :: l, n => by
    have ih := mget_rawN L l n
    by_cases h : k = n
    · subst h; simp [rawN, mget, keq, getA]
    · have : keq (.int .i64 k) (.int .i64 n) = false := by simp [keq, h]
      simp only [rawN, List.map_cons, mget, this, cond_false, getA, h, if_false]
      exact ih
theorem mput_rawN (L : Lay) (v : Value) : ∀ (l : List (Int × PN)) (n : Int), getA l n = none → mput (rawN L l) (.int .i64 n) v = rawN L l ++ [(.int .i64 n, v)]
  | [], n, _ => rfl
  | (k, x) :: l, n, h => by
    by_cases hk : k = n
    · simp [getA, hk] at h
    · have hq : keq (.int .i64 k) (.int .i64 n) = false := by simp [keq, hk]
      simp only [getA, hk, if_false] at h
      have ih := mput_rawN L v l n h
      simp only [rawN, List.map_cons, mput, hq, cond_false, List.cons_append] at ih ⊢
      rw [ih]
theorem mdel_rawN (L : Lay) : ∀ (l : List (Int × PN)) (n : Int), mdel (rawN L l) (.int .i64 n) = rawN L (delA l n)
  | [], n => rfl
  | (k, x) :: l, n => by
    have ih := mdel_rawN L l n
    by_cases h : k = n
    · subst h; simp [rawN, mdel, keq, delA]
    · have hq : keq (.int .i64 k) (.int .i64 n) = false := by simp [keq, h]
      simp only [rawN, List.map_cons, mdel, hq, cond_false, delA, h, if_false] at ih ⊢
      rw [ih]
theorem mput_rawK : ∀ (l : List Int) (n : Int), mput (rawK l) (.int .i64 n) (.int .i64 1) = rawK (putK l n)
  | [], n => by simp [rawK, mput, putK]
  | k :: l, n => by
    have ih := mput_rawK l n
    by_cases h : k = n
    · subst h; simp [rawK, mput, keq, putK]
    · have hq : keq (.int .i64 k) (.int .i64 n) = false := by simp [keq, h]
      simp only [rawK, List.map_cons, mput, hq, cond_false] at ih ⊢
      rw [ih]
      unfold putK
      by_cases hm : n ∈ l
      · simp [hm]
      · simp [hm, Ne.symm h]
theorem mdel_rawK : ∀ (l : List Int) (n : Int), mdel (rawK l) (.int .i64 n) = rawK (l.erase n)
  | [], n => rfl
  | k :: l, n => by
    have ih := mdel_rawK l n
    by_cases h : k = n
    · subst h; simp [rawK, mdel, keq]
    · have hq : keq (.int .i64 k) (.int .i64 n) = false := by simp [keq, h]
      simp only [rawK, List.map_cons, mdel, hq, cond_false] at ih ⊢
      rw [ih, List.erase_cons_tail (by simpa using h), List.map_cons]
theorem mget_rawA : ∀ (l : List (ByteArray × ByteArray)) (n : ByteArray), mget (rawA l) (.string n) = (getS l n).map .string
  | [], n => rfl
  | (k, x) :: l, n => by
    have ih := mget_rawA l n
    by_cases h : k = n
    · subst h; simp [rawA, mget, keq, getS]
    · have hq : keq (.string k) (.string n) = false := by simp [keq, h]
      simp only [rawA, List.map_cons, mget, hq, cond_false, getS, h, if_false]
      exact ih
theorem mput_rawA (y : ByteArray) : ∀ (l : List (ByteArray × ByteArray)) (n : ByteArray), mput (rawA l) (.string n) (.string y) = rawA (putS l n y)
  | [], n => rfl
  | (k, x) :: l, n => by
    have ih := mput_rawA y l n
    by_cases h : k = n
    · subst h; simp [rawA, mput, keq, putS]
    · have hq : keq (.string k) (.string n) = false := by simp [keq, h]
      simp only [rawA, List.map_cons, mput, hq, cond_false, putS, h, if_false] at ih ⊢
      rw [ih]
theorem mdel_rawA : ∀ (l : List (ByteArray × ByteArray)) (n : ByteArray), mdel (rawA l) (.string n) = rawA (delS l n)
  | [], n => rfl
  | (k, x) :: l, n => by
    have ih := mdel_rawA l n
    by_cases h : k = n
    · subst h; simp [rawA, mdel, keq, delS]
    · have hq : keq (.string k) (.string n) = false := by simp [keq, h]
      simp only [rawA, List.map_cons, mdel, hq, cond_false, delS, h, if_false] at ih ⊢
      rw [ih]
theorem rawN_mod (L : Lay) (f : PN → PN) : ∀ (l : List (Int × PN)) (n : Int), rawN L (modA f l n) = rawN L l
  | [], n => rfl
  | (k, x) :: l, n => by
    have ih := rawN_mod L f l n
    by_cases h : k = n
    · simp [rawN, modA, h]
    · simp only [rawN, modA, h, if_false, List.map_cons] at ih ⊢
      rw [ih]
theorem rawN_lay {L L' : Lay} : ∀ {l : List (Int × PN)}, (∀ k x, (k, x) ∈ l → L' (.nd k) = L (.nd k)) → rawN L' l = rawN L l
  | [], _ => rfl
  | (k, x) :: l, h => by
    have ih := rawN_lay (L := L) (L' := L') (l := l) fun j y hj => h j y (by simp [hj])
    simp only [rawN, List.map_cons] at ih ⊢
    rw [ih, h k x (by simp)]

/-! ### Where it lies -/
def act (T : PT) : Role → Prop
  | .nd k => ∃ n, T.get k = some n
  | .ab k => ∃ n, T.get k = some n
  | .kb k => ∃ n, T.get k = some n
  | _ => True
def Holds (L : Lay) (T : PT) (idsV : Value) : Role → Obj → Prop
  | .t, o => ∃ e, o = .cells #[.map (some (L .nb)), ptr (L .mk), .int .i64 0, idsV, .int .i64 T.last] e (0, 0)
  | .nb, o => MapI (some .i64) o (rawN L T.nodes)
  | .mk, _ => True
  | .nd k, o => ∀ n, T.get k = some n → ∃ e, o = .cells #[.int .i64 n.parent, .string n.name, .map (some (L (.ab k))), .map (some (L (.kb k)))] e (0, 0)
  | .ab k, o => ∀ n, T.get k = some n → MapI none o (rawA n.attrs)
  | .kb k, o => ∀ n, T.get k = some n → MapI (some .i64) o (rawK n.kids)
structure TreeT (R : Role → Prop) (m : PH) (L : Lay) (T : PT) (idsV : Value) : Prop where
  has : ∀ r, R r → act T r → ∃ o, m (L r) = some o ∧ Holds L T idsV r o
  sep : ∀ r s, R r → R s → act T r → act T s → L r = L s → r = s
  nod : (T.nodes.map (·.1)).Nodup
/-- A tree, owned. -/
def TreeM (e : TypeId) (m : PH) (L : Lay) (T : PT) : Prop := ∃ mi mt idsV, m = uni mi mt ∧ dis mi mt ∧ SlO mi idsV e 1 (T.ids.map gi) ∧ TreeT (fun _ => True) mt L T idsV

theorem upd_self (m : PH) (b : Nat) (o : Obj) : m.upd b o b = some o := by simp [PH.upd]
theorem upd_ne {m : PH} {b j : Nat} {o : Obj} (h : j ≠ b) : m.upd b o j = m j := by simp [PH.upd, h]
theorem uni_upd {mi mt : PH} {b : Nat} {o : Obj} (h : mi b = none) : (uni mi mt).upd b o = uni mi (mt.upd b o) := by
  funext j
  by_cases hj : j = b
  · subst hj; simp [PH.upd, uni, h]
  · simp [PH.upd, uni, hj]
theorem dis_upd {mi mt : PH} {b : Nat} {o : Obj} (hd : dis mi mt) (h : mi b = none) : dis mi (mt.upd b o) := by
  intro j
  by_cases hj : j = b
  · subst hj; exact .inl h
  · rw [upd_ne hj]; exact hd j
theorem uni_r {mi mt : PH} (hd : dis mi mt) {b : Nat} {o : Obj} (h : mt b = some o) : uni mi mt b = some o ∧ mi b = none := by
  have hn : mi b = none := by
    rcases hd b with h1 | h1
    · exact h1
    · rw [h1] at h; cases h
  exact ⟨by simp [uni, hn, h], hn⟩

/-- A write to one of its blocks. -/
theorem TreeM.upd {e : TypeId} {m : PH} {L : Lay} {T T' : PT} (h : TreeM e m L T) (r : Role) (hr : act T r) (o' : Obj) (hids : T'.ids = T.ids) (hact : ∀ s, act T' s → act T s) (hnod : (T'.nodes.map (·.1)).Nodup)
    (hh : ∀ idsV o, Holds L T idsV r o → Holds L T' idsV r o') (hs : ∀ s, s ≠ r → act T' s → ∀ idsV o, Holds L T idsV s o → Holds L T' idsV s o) : TreeM e (m.upd (L r) o') L T' := by
  obtain ⟨mi, mt, idsV, rfl, hd, hi, ht⟩ := h
  obtain ⟨o, ho, hho⟩ := ht.has r trivial hr
  obtain ⟨_, hn⟩ := uni_r hd ho
  refine ⟨mi, mt.upd (L r) o', idsV, uni_upd hn, dis_upd hd hn, by rw [hids]; exact hi, ⟨fun s _ hs' => ?_, fun a b _ _ ha hb => ht.sep a b trivial trivial (hact a ha) (hact b hb), hnod⟩⟩
  by_cases hsr : s = r
  · subst hsr
    exact ⟨o', upd_self _ _ _, hh _ _ hho⟩
  · obtain ⟨o2, h2, h3⟩ := ht.has s trivial (hact s hs')
    exact ⟨o2, by rw [upd_ne (fun e => hsr (ht.sep s r trivial trivial (hact s hs') hr e))]; exact h2, hs s hsr hs' _ _ h3⟩
/-- What it holds. -/
theorem TreeM.at {e : TypeId} {m : PH} {L : Lay} {T : PT} (h : TreeM e m L T) (r : Role) (hr : act T r) : ∃ o idsV, m (L r) = some o ∧ Holds L T idsV r o := by
  obtain ⟨mi, mt, idsV, rfl, hd, hi, ht⟩ := h
  obtain ⟨o, ho, hho⟩ := ht.has r trivial hr
  exact ⟨o, idsV, (uni_r hd ho).1, hho⟩
theorem TreeM.nod {e : TypeId} {m : PH} {L : Lay} {T : PT} (h : TreeM e m L T) : (T.nodes.map (·.1)).Nodup := by
  obtain ⟨mi, mt, idsV, _, _, _, ht⟩ := h
  exact ht.nod
end Go.Proofs.Ytdpknchgoeboaaa.Vc
