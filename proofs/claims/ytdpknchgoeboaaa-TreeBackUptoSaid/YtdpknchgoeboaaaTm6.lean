/- A tree written to. -/
import Derived.Test.YtdpknchgoeboaaaTm2
set_option linter.unusedVariables false
set_option linter.unusedSimpArgs false
namespace Go.Proofs.Ytdpknchgoeboaaa.Vc
open Go

section
variable {e : TypeId} {m : PH} {L : Lay} {T : PT} {k : Int} {x : PN}
theorem act_mod {f : PN → PN} {s : Role} (h : act (T.mod k f) s) : act T s := by
  have key : ∀ j n, (T.mod k f).get j = some n → ∃ n', T.get j = some n' := fun j n hn => by
    rw [PT.get_mod] at hn
    split at hn
    · cases hg : T.get j with
      | none => rw [hg] at hn; cases hn
      | some y => exact ⟨y, rfl⟩
    · exact ⟨n, hn⟩
  cases s with
  | nd j => obtain ⟨n, hn⟩ := h; exact key j n hn
  | ab j => obtain ⟨n, hn⟩ := h; exact key j n hn
  | kb j => obtain ⟨n, hn⟩ := h; exact key j n hn
  | t => trivial
  | nb => trivial
  | mk => trivial
theorem get_mod_self {f : PN → PN} (hx : T.get k = some x) : (T.mod k f).get k = some (f x) := by rw [PT.get_mod, if_pos rfl, hx]; rfl
theorem get_mod_ne {f : PN → PN} {j : Int} (h : j ≠ k) : (T.mod k f).get j = T.get j := by rw [PT.get_mod, if_neg h]

theorem TreeM.modKids {f : PN → PN} (h : TreeM e m L T) (hx : T.get k = some x) (hf : ∀ y, (f y).parent = y.parent ∧ (f y).name = y.name ∧ (f y).attrs = y.attrs) {o' : Obj} (ho : MapI (some .i64) o' (rawK (f x).kids)) : TreeM e (m.upd (L (.kb k)) o') L (T.mod k f) := by
  refine h.upd (.kb k) ⟨x, hx⟩ o' rfl (fun s => act_mod) (by rw [PT.mod, keys_mod]; exact h.nod) (fun idsV o _ => fun n hn => ?_) fun s hs ha idsV o hh => ?_
  · rw [get_mod_self hx] at hn; cases hn; exact ho
  · cases s with
    | t => exact hh
    | mk => trivial
    | nb => show MapI _ _ _; rw [PT.mod, rawN_mod]; exact hh
    | nd j =>
      intro n hn
      by_cases hj : j = k
      · subst hj; rw [get_mod_self hx] at hn; cases hn
        obtain ⟨h1, h2, _⟩ := hf x
        obtain ⟨e', he'⟩ := hh x hx
        exact ⟨e', by rw [he', h1, h2]⟩
      · rw [get_mod_ne hj] at hn; exact hh n hn
    | ab j =>
      intro n hn
      by_cases hj : j = k
      · subst hj; rw [get_mod_self hx] at hn; cases hn
        rw [(hf x).2.2]; exact hh x hx
      · rw [get_mod_ne hj] at hn; exact hh n hn
    | kb j =>
      intro n hn
      by_cases hj : j = k
      · subst hj; exact absurd rfl hs
      · rw [get_mod_ne hj] at hn; exact hh n hn
theorem TreeM.modAttrs {f : PN → PN} (h : TreeM e m L T) (hx : T.get k = some x) (hf : ∀ y, (f y).parent = y.parent ∧ (f y).name = y.name ∧ (f y).kids = y.kids) {o' : Obj} (ho : MapI none o' (rawA (f x).attrs)) : TreeM e (m.upd (L (.ab k)) o') L (T.mod k f) := by
  refine h.upd (.ab k) ⟨x, hx⟩ o' rfl (fun s => act_mod) (by rw [PT.mod, keys_mod]; exact h.nod) (fun idsV o _ => fun n hn => ?_) fun s hs ha idsV o hh => ?_
  · rw [get_mod_self hx] at hn; cases hn; exact ho
  · cases s with
    | t => exact hh
    | mk => trivial
    | nb => show MapI _ _ _; rw [PT.mod, rawN_mod]; exact hh
    | nd j =>
      intro n hn
      by_cases hj : j = k
      · subst hj; rw [get_mod_self hx] at hn; cases hn
        obtain ⟨h1, h2, _⟩ := hf x
        obtain ⟨e', he'⟩ := hh x hx
        exact ⟨e', by rw [he', h1, h2]⟩
      · rw [get_mod_ne hj] at hn; exact hh n hn
    | kb j =>
      intro n hn
      by_cases hj : j = k
      · subst hj; rw [get_mod_self hx] at hn; cases hn
        rw [(hf x).2.2]; exact hh x hx
      · rw [get_mod_ne hj] at hn; exact hh n hn
    | ab j =>
      intro n hn
      by_cases hj : j = k
      · subst hj; exact absurd rfl hs
      · rw [get_mod_ne hj] at hn; exact hh n hn
theorem TreeM.modPlace {f : PN → PN} (h : TreeM e m L T) (hx : T.get k = some x) (hf : ∀ y, (f y).attrs = y.attrs ∧ (f y).kids = y.kids) {e' : TypeId} : TreeM e (m.upd (L (.nd k)) (.cells #[.int .i64 (f x).parent, .string (f x).name, .map (some (L (.ab k))), .map (some (L (.kb k)))] e' (0, 0))) L (T.mod k f) := by
  refine h.upd (.nd k) ⟨x, hx⟩ _ rfl (fun s => act_mod) (by rw [PT.mod, keys_mod]; exact h.nod) (fun idsV o _ => fun n hn => ?_) fun s hs ha idsV o hh => ?_
  · rw [get_mod_self hx] at hn; cases hn; exact ⟨e', rfl⟩
  · cases s with
    | t => exact hh
    | mk => trivial
    | nb => show MapI _ _ _; rw [PT.mod, rawN_mod]; exact hh
    | nd j =>
      intro n hn
      by_cases hj : j = k
      · subst hj; exact absurd rfl hs
      · rw [get_mod_ne hj] at hn; exact hh n hn
    | ab j =>
      intro n hn
      by_cases hj : j = k
      · subst hj; rw [get_mod_self hx] at hn; cases hn
        rw [(hf x).1]; exact hh x hx
      · rw [get_mod_ne hj] at hn; exact hh n hn
    | kb j =>
      intro n hn
      by_cases hj : j = k
      · subst hj; rw [get_mod_self hx] at hn; cases hn
        rw [(hf x).2]; exact hh x hx
      · rw [get_mod_ne hj] at hn; exact hh n hn

def PT.unkid (T : PT) (k n : Int) : PT := T.mod k fun x => { x with kids := x.kids.erase n }
def PT.kid (T : PT) (k n : Int) : PT := T.mod k fun x => { x with kids := putK x.kids n }
def PT.place (T : PT) (n parent : Int) (name : ByteArray) : PT := T.mod n fun x => { x with parent := parent, name := name }
def PT.attr (T : PT) (n : Int) (key value : ByteArray) : PT := T.mod n fun x => { x with attrs := if value = ⟨#[]⟩ then delS x.attrs key else putS x.attrs key value }
def PT.del (T : PT) (n : Int) : PT := { T with nodes := delA T.nodes n }
theorem mod_none {f : PN → PN} (h : T.get k = none) : T.mod k f = T := by
  have : ∀ l : List (Int × PN), getA l k = none → modA f l k = l := by
    intro l
    induction l with
    | nil => intro _; rfl
    | cons p l ih =>
      obtain ⟨j, y⟩ := p
      intro h
      by_cases hj : j = k
      · simp [getA, hj] at h
      · simp only [getA, hj, if_false] at h
        simp only [modA, hj, if_false, ih h]
  unfold PT.mod
  rw [this _ h]

variable {C : Ctx} {σ : SS} {d : Option Nat} {K : KT} {n : Int}
theorem TreeM.unkid (h : TreeM e σ.m L T) (hx : T.get k = some x) (hK : ∀ m', TreeM e m' L (T.unkid k n) → K ({ σ with m := m' }.put d (.tup []))) : mdlK (some .i64) (L (.kb k)) (.int .i64 n) d K σ := by
  obtain ⟨o, idsV, h1, h2⟩ := h.at (.kb k) ⟨x, hx⟩
  refine ⟨o, _, h1, h2 x hx, rfl, fun o' ho' => hK _ ?_⟩
  rw [mdel_rawK] at ho'
  exact h.modKids (f := fun x => { x with kids := x.kids.erase n }) hx (fun y => ⟨rfl, rfl, rfl⟩) ho'
theorem TreeM.kid (h : TreeM e σ.m L T) (hx : T.get k = some x) (hK : ∀ m', TreeM e m' L (T.kid k n) → K ({ σ with m := m' }.put d .no)) : mupK (some .i64) (L (.kb k)) (.int .i64 n) (.int .i64 1) d K σ := by
  obtain ⟨o, idsV, h1, h2⟩ := h.at (.kb k) ⟨x, hx⟩
  refine ⟨o, _, h1, h2 x hx, rfl, fun o' ho' => hK _ ?_⟩
  rw [mput_rawK] at ho'
  exact h.modKids (f := fun x => { x with kids := putK x.kids n }) hx (fun y => ⟨rfl, rfl, rfl⟩) ho'
theorem TreeM.place (h : TreeM e σ.m L T) (hx : T.get k = some x) {p : Place} (hK : ∀ m', TreeM e m' L (T.place k p.parent p.name) → K ({ σ with m := m' }.put d .no)) : stK σ (L (.nd k)) 0 2 (gPlace p) d K := by
  obtain ⟨o, idsV, h1, h2⟩ := h.at (.nd k) ⟨x, hx⟩
  obtain ⟨e', rfl⟩ := h2 x hx
  refine st_of (gPlace_sz p) _ e' ⟨h1, by simp⟩ ?_
  have := h.modPlace (f := fun x => { x with parent := p.parent, name := p.name }) hx (fun y => ⟨rfl, rfl⟩) (e' := e')
  exact hK _ this
theorem TreeM.attrDel {key : ByteArray} (h : TreeM e σ.m L T) (hx : T.get k = some x) (hK : ∀ m', TreeM e m' L (T.attr k key ⟨#[]⟩) → K ({ σ with m := m' }.put d (.tup []))) : mdlK none (L (.ab k)) (.string key) d K σ := by
  obtain ⟨o, idsV, h1, h2⟩ := h.at (.ab k) ⟨x, hx⟩
  refine ⟨o, _, h1, h2 x hx, trivial, fun o' ho' => hK _ ?_⟩
  rw [mdel_rawA] at ho'
  exact h.modAttrs (f := fun x => { x with attrs := if (⟨#[]⟩ : ByteArray) = ⟨#[]⟩ then delS x.attrs key else putS x.attrs key ⟨#[]⟩ }) hx (fun y => ⟨rfl, rfl, rfl⟩) (by simp only [if_true]; exact ho')
theorem TreeM.attrPut {key value : ByteArray} (hv : value ≠ ⟨#[]⟩) (h : TreeM e σ.m L T) (hx : T.get k = some x) (hK : ∀ m', TreeM e m' L (T.attr k key value) → K ({ σ with m := m' }.put d .no)) : mupK none (L (.ab k)) (.string key) (.string value) d K σ := by
  obtain ⟨o, idsV, h1, h2⟩ := h.at (.ab k) ⟨x, hx⟩
  refine ⟨o, _, h1, h2 x hx, trivial, fun o' ho' => hK _ ?_⟩
  rw [mput_rawA] at ho'
  exact h.modAttrs (f := fun x => { x with attrs := if value = ⟨#[]⟩ then delS x.attrs key else putS x.attrs key value }) hx (fun y => ⟨rfl, rfl, rfl⟩) (by simp only [if_neg hv]; exact ho')
theorem TreeM.delNode (h : TreeM e σ.m L T) (hK : ∀ m', TreeM e m' L (T.del n) → K ({ σ with m := m' }.put d (.tup []))) : mdlK (some .i64) (L .nb) (.int .i64 n) d K σ := by
  obtain ⟨o, idsV, h1, h2⟩ := h.at .nb trivial
  have hg : ∀ j y, (T.del n).get j = some y → j ≠ n ∧ T.get j = some y := fun j y hy => by
    unfold PT.get PT.del at hy
    rw [getA_del h.nod] at hy
    split at hy
    · cases hy
    · rename_i hj; exact ⟨hj, hy⟩
  have hact : ∀ s, act (T.del n) s → act T s := fun s hs => by
    cases s with
    | nd j => obtain ⟨y, hy⟩ := hs; exact ⟨y, (hg j y hy).2⟩
    | ab j => obtain ⟨y, hy⟩ := hs; exact ⟨y, (hg j y hy).2⟩
    | kb j => obtain ⟨y, hy⟩ := hs; exact ⟨y, (hg j y hy).2⟩
    | t => trivial
    | nb => trivial
    | mk => trivial
  refine ⟨o, _, h1, h2, rfl, fun o' ho' => hK _ ?_⟩
  rw [mdel_rawN] at ho'
  refine h.upd .nb trivial o' rfl hact (by rw [PT.del, keys_del]; exact h.nod.erase _) (fun idsV o _ => ho') fun s hs ha idsV o hh => ?_
  cases s with
  | t => exact hh
  | mk => trivial
  | nb => exact absurd rfl hs
  | nd j => exact fun y hy => hh y (hg j y hy).2
  | ab j => exact fun y hy => hh y (hg j y hy).2
  | kb j => exact fun y hy => hh y (hg j y hy).2
end
end Go.Proofs.Ytdpknchgoeboaaa.Vc
