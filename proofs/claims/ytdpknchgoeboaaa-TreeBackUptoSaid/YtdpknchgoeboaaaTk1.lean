/- slices.Sorted(maps.Keys(m)): the kit's contracts as contracts of these texts. -/
import Derived.Test.YtdpknchgoeboaaaTm2
import Derived.Test.YtdpknchgoeboaaaShelfT
set_option linter.unusedVariables false
set_option linter.unusedSimpArgs false
namespace Go.Proofs.Ytdpknchgoeboaaa.Vc
open Go Go.Proofs Go.RowKit Go.Maps Go.Sort Go.Shelf

def keyI (p : Value × Value) : Int := match p.1 with | .int _ n => n | _ => 0
def keyT (p : Value × Value) : List UInt8 := match p.1 with | .string s => s.data.toList | _ => []
def anyD (_ : Value) : Option (DataW Unit × List MemPlace) := some (.nil, [])

theorem owns_int {w : World} {b : Nat} {o : Obj} {l : List (Value × Value)} {kt : TypeId} (hk : Try.prog.underlying kt = some (.int .i64)) (hb : w.heap[b]? = some o) (hm : MapI (some .i64) o l) (hr : ∀ p ∈ l, (Lit.int .i64 (keyI p)).wf = true) (hs : l.length ≤ maxLen) :
    ∃ nn D0, w.ownsMap Try.prog kt anyD b nn D0 ∧ (intKeys D0).Perm (l.map keyI) ∧ Maps.size D0 = l.length := by
  obtain ⟨es, cl, rfl, rfl, h1, h2⟩ := hm
  have hlen : es.size ≤ maxLen := by simpa using hs
  have hrd : ∀ x ∈ es.toList, Go.WideElems.rd Try.prog kt anyD x = some (.int .i64 (keyI (kv x)), .nil) := fun x hx => by
    obtain ⟨g1, _⟩ := h2 x hx
    have g2 := hr (kv x) (List.mem_map.2 ⟨x, hx, rfl⟩)
    cases hkx : x.key with
    | int k n =>
      rw [hkx] at g1
      have : k = .i64 := g1
      subst this
      have e : keyI (kv x) = n := by simp [keyI, kv, hkx]
      rw [e] at g2 ⊢
      unfold Go.WideElems.rd
      rw [hkx, keyOf_int_mk hk g2]
      rfl
    | _ => rw [hkx] at g1; exact g1.elim
  have hrg : ∀ x ∈ es.toList, Go.WideElems.rg Try.prog kt anyD x = (.int .i64 (keyI (kv x)), .nil) := fun x hx => by
    unfold Go.WideElems.rg; rw [hrd x hx]; rfl
  refine ⟨es.size, .map ((es.toList.map (Go.WideElems.rg Try.prog kt anyD)).foldr DataW.insert []), ⟨es, cl, hb, ⟨hlen, h1, fun x hx => ⟨_, hrd x hx⟩⟩, Nat.le_refl _, rfl⟩, ?_, ?_⟩
  · have hp := Go.WideShapes.sorted_perm (es.toList.map (Go.WideElems.rg Try.prog kt anyD))
    have := hp.map (fun p : Lit × DataW Unit => _root_.Go.intOf p.1)
    refine (show (intKeys (H := Unit) (.map ((es.toList.map (Go.WideElems.rg Try.prog kt anyD)).foldr DataW.insert []))).Perm _ from this).trans (List.Perm.of_eq ?_)
    rw [List.map_map, List.map_map]
    exact List.map_congr_left fun x hx => by simp [Function.comp, hrg x hx, _root_.Go.intOf]
  · have hp := Go.WideShapes.sorted_perm (es.toList.map (Go.WideElems.rg Try.prog kt anyD))
    rw [Maps.size_eq, hp.length_eq]
    simp
theorem owns_str {w : World} {b : Nat} {o : Obj} {l : List (Value × Value)} {kt : TypeId} (hk : Try.prog.underlying kt = some .string) (hb : w.heap[b]? = some o) (hm : MapI none o l) (hr : ∀ p ∈ l, (keyT p).length ≤ maxLen) (hs : l.length ≤ maxLen) :
    ∃ nn D0, w.ownsMap Try.prog kt anyD b nn D0 ∧ (strKeys D0).Perm (l.map keyT) ∧ Maps.size D0 = l.length := by
  obtain ⟨es, cl, rfl, rfl, h1, h2⟩ := hm
  have hlen : es.size ≤ maxLen := by simpa using hs
  have hrd : ∀ x ∈ es.toList, Go.WideElems.rd Try.prog kt anyD x = some (.string (keyT (kv x)), .nil) := fun x hx => by
    obtain ⟨g1, _⟩ := h2 x hx
    have g2 := hr (kv x) (List.mem_map.2 ⟨x, hx, rfl⟩)
    cases hkx : x.key with
    | string s =>
      have e : keyT (kv x) = s.data.toList := by simp [keyT, kv, hkx]
      rw [e] at g2 ⊢
      have g3 : s.size ≤ maxLen := by rw [Array.length_toList] at g2; exact g2
      unfold Go.WideElems.rd
      rw [hkx]
      simp [keyOf, hk, mapKey, g3, anyD]
    | _ => rw [hkx] at g1; exact g1.elim
  have hrg : ∀ x ∈ es.toList, Go.WideElems.rg Try.prog kt anyD x = (.string (keyT (kv x)), .nil) := fun x hx => by
    unfold Go.WideElems.rg; rw [hrd x hx]; rfl
  refine ⟨es.size, .map ((es.toList.map (Go.WideElems.rg Try.prog kt anyD)).foldr DataW.insert []), ⟨es, cl, hb, ⟨hlen, h1, fun x hx => ⟨_, hrd x hx⟩⟩, Nat.le_refl _, rfl⟩, ?_, ?_⟩
  · have hp := Go.WideShapes.sorted_perm (es.toList.map (Go.WideElems.rg Try.prog kt anyD))
    have := hp.map (fun p : Lit × DataW Unit => strOf p.1)
    refine (show (strKeys (H := Unit) (.map ((es.toList.map (Go.WideElems.rg Try.prog kt anyD)).foldr DataW.insert []))).Perm _ from this).trans (List.Perm.of_eq ?_)
    rw [List.map_map, List.map_map]
    exact List.map_congr_left fun x hx => by simp [Function.comp, hrg x hx, strOf]
  · have hp := Go.WideShapes.sorted_perm (es.toList.map (Go.WideElems.rg Try.prog kt anyD))
    rw [Maps.size_eq, hp.length_eq]
    simp

theorem sortsI (m : Nat) : AnyZI.SortsIn Try.prog Try.sortedI_ren Fence.wide m :=
  ⟨fun blk off cap ss W hH hblk hsz => callsIn_wide.2 (AnyM.slices_Sort_int Try.sortI blk off cap ss W hH hblk hsz),
   fun p cap W => callsIn_wide.2 (AnyM.slices_Sort_int_none Try.sortI p cap W)⟩
theorem sortsT (m : Nat) : AnyZ.SortsIn Try.prog Try.sortedT_ren Fence.wide m :=
  ⟨fun blk off cap ss W hH hblk hsz => callsIn_wide.2 (AnyM.slices_Sort_string Try.sortT blk off cap ss W hH hblk hsz),
   fun p cap W => callsIn_wide.2 (AnyM.slices_Sort_string_none Try.sortT p cap W)⟩

abbrev fKeysI : Nat := 36
abbrev fKeysI1 : Nat := 66
abbrev fSortedI : Nat := 35
abbrev fKeysT : Nat := 68
abbrev fKeysT1 : Nat := 79
abbrev fSortedT : Nat := 67

/-- What goes over a map's keys. -/
def keysV (f b : Nat) : Value := .func (.func f) #[] #[ptr b]
def KeysQ (f b : Nat) (rs : List GV) (m' : PH) : Prop := ∃ bm e, rs = [.s (keysV f bm)] ∧ m' bm = some (.cells #[.map (some b)] e (0, 0))

theorem spec_alloc {P : Program} {f : Nat} {args : List Value} {w : World} {ob : Obj} {v : Value} {Q : List GV → PH → Prop} (h : Calls P f args.toArray w fun e w' => e = .returned v ∧ w' = w.alloc ob) (hv : v.oneCell' = true) (hn : ∀ xs, v ≠ .tuple xs) (hq : Q [.s v] (one w.heap.size ob)) : Spec P f args PH.no w Q := by
  intro _
  refine h.mono fun e w' ⟨he, hw⟩ => ?_
  subst hw
  refine ⟨[.s v], one w.heap.size ob, by rw [he]; rfl, by simpa [GV.ok] using hv, hq, ?_, ?_, ⟨rfl, rfl, rfl, by simp, fun k hk _ => alloc_old hk⟩⟩
  · intro b o hb
    simp only [one] at hb
    split at hb
    · rename_i e; subst e
      simp only [Option.some.injEq] at hb
      subst hb
      exact alloc_new
    · cases hb
  · intro b hb
    right
    simp only [one] at hb
    split at hb
    · rename_i e; omega
    · exact absurd rfl hb

theorem keysI_spec (w : World) (b : Nat) : Spec Try.prog fKeysI [.map (some b)] PH.no w (KeysQ fKeysI1 b) :=
  spec_alloc (callsIn_wide.1 (AnyZI.keys_in Try.keysI Fence.wide 5 trivial rfl (some b) w)) rfl (fun xs h => by cases h) ⟨_, _, rfl, by simp [one]; rfl⟩
theorem keysT_spec (w : World) (b : Nat) : Spec Try.prog fKeysT [.map (some b)] PH.no w (KeysQ fKeysT1 b) :=
  spec_alloc (callsIn_wide.1 (AnyZ.keys_in Try.keysT Fence.wide 5 trivial rfl (some b) w)) rfl (fun xs h => by cases h) ⟨_, _, rfl, by simp [one]; rfl⟩

/-- A new row, handed back. -/
theorem spec_row {P : Program} {f : Nat} {args : List Value} {w : World} {et : TypeId} {Q : List GV → PH → Prop} (h : Calls P f args.toArray w fun e w' => ∃ v xs, e = .returned v ∧ w'.ownsRow w.heap.size et 1 v xs.length xs ∧ Below w.heap.size w w' ∧ (∀ x ∈ xs, x.oneCell' = true) ∧ ∀ m', SlO m' v et 1 (xs.map GV.s) → Q [.s v] m') : Spec P f args PH.no w Q := by
  intro _
  refine h.mono fun e w' ⟨v, xs, he, ⟨_, hrow⟩, hbl, hone, hq⟩ => ?_
  have hfl : ∀ l : List Value, flats (l.map GV.s) = l := fun l => by
    induction l with
    | nil => rfl
    | cons x l ih => simp only [flats, List.map_cons, List.flatMap_cons, GV.flat] at ih ⊢; rw [ih]; rfl
  have hels : Els 1 (xs.map GV.s) := fun x hx => by
    obtain ⟨y, hy, rfl⟩ := List.mem_map.1 hx
    exact ⟨hone y hy, rfl⟩
  rcases hrow with ⟨rfl, hz⟩ | ⟨g, cap, cur, rfl, hbase, hg, h1, h2, h3, h4⟩
  · have : xs = [] := List.length_eq_zero_iff.1 hz
    subst this
    exact ⟨[.s (.slice none 0 0)], PH.no, by rw [he]; rfl, by simp [GV.ok, Value.oneCell'], hq _ ⟨fun x hx => by simp at hx, .inl ⟨rfl, rfl⟩⟩, (fun _ _ h => by cases h), (fun b hb => absurd rfl hb), hbl.os, hbl.tape, hbl.output, hbl.size, fun k hk _ => hbl.block k hk⟩
  · refine ⟨[.s (.slice (some ⟨g, 0, none⟩) xs.length cap)], one g (.cells cur et (0, 0)), by rw [he]; rfl, by simp [GV.ok, Value.oneCell'], hq _ ⟨hels, .inr ⟨⟨g, 0, none⟩, cap, by simp, by simpa using h1, fun _ => ⟨cur, rfl, by simp [h3], by simp [one], fun j y hj => ?_⟩⟩⟩, ?_, ?_, hbl.os, hbl.tape, hbl.output, hbl.size, fun k hk _ => hbl.block k hk⟩
    · rw [hfl] at hj
      have : cur.toList[j]? = some y := by
        have hlt : j < xs.length := by
          rcases Nat.lt_or_ge j xs.length with h | h
          · exact h
          · rw [List.getElem?_eq_none h] at hj; cases hj
        rw [← h4] at hj
        rw [List.getElem?_take_of_lt (by omega)] at hj
        exact hj
      simpa using this
    · intro b o hb
      simp only [one] at hb
      split at hb
      · rename_i e; subst e
        simp only [Option.some.injEq] at hb
        subst hb
        exact hg
      · cases hb
    · intro b hb
      right
      simp only [one] at hb
      split at hb
      · rename_i e; omega
      · exact absurd rfl hb

def sortZ (l : List Int) : List Int := l.mergeSort fun x y => decide (x ≤ y)
def sortB (l : List (List UInt8)) : List (List UInt8) := l.mergeSort fun x y => decide (x ≤ y)

theorem sortedI_spec (w : World) (b bm : Nat) (e : TypeId) (fz : Nat × Nat) (o : Obj) (l : List (Value × Value)) (u : PH) (hu : u.le w) (hbm : u bm = some (.cells #[.map (some b)] e fz)) (hb : u b = some o) (hm : MapI (some .i64) o l) (hr : ∀ p ∈ l, (Lit.int .i64 (keyI p)).wf = true) (hs : l.length * 8 ≤ 140737488355328) :
    Spec Try.prog fSortedI [keysV fKeysI1 bm] PH.no w fun rs m' => ∃ v, rs = [.s v] ∧ SlO m' v 2 1 ((sortZ (l.map keyI)).map gi) := by
  have hmax : l.length ≤ maxLen := by unfold maxLen; omega
  obtain ⟨nn, D0, hown, hperm, hsize⟩ := owns_int (kt := 2) Try.underlying2 (hu _ _ hb) hm hr hmax
  have hblk := hu _ _ hbm
  have hseq : SeqGives Fence.wide 2 Try.prog fKeysI1 #[ptr bm] encZ (fun ss => ss.Perm (intKeys D0)) (Maps.size D0) w :=
    AnyZI.keys_gives (ρ := Try.keysI_ren) { Try.keysI with } Fence.wide _ trivial rfl (by omega) bm b nn D0 w (Array.getElem?_eq_some_iff.1 hblk).1 (by rw [cell_of hblk]; rfl) hown
  have cS := AnyZI.sorted_in Try.sortedI Fence.wide 5 trivial trivial trivial trivial rfl (by omega) (sortsI _) (enters_of Try.func65 (by kernel_rfl) rfl) fKeysI1 #[ptr bm] trivial (enters_of Try.func66 (by kernel_rfl) rfl) _ _ (by rw [hsize]; exact hmax) (by rw [hsize]; exact hs) w hseq
  refine spec_row (et := 2) ((callsIn_wide.1 cS).mono fun e w' ⟨v, ss, he, hS, hrow, _, hbl⟩ => ?_)
  have hss : (ss.mergeSort fun x y => decide (x ≤ y)) = sortZ (l.map keyI) := mergeSort_of_perm_i (hS.trans hperm)
  rw [hss] at hrow
  refine ⟨v, (sortZ (l.map keyI)).map encZ, he, ?_, hbl, fun x hx => ?_, fun m' hm' => ⟨v, rfl, ?_⟩⟩
  · have : ((sortZ (l.map keyI)).map encZ).length = ss.length := by rw [List.length_map, ← hss]; simp
    rw [this]; exact hrow
  · obtain ⟨n, _, rfl⟩ := List.mem_map.1 hx; rfl
  · rw [List.map_map] at hm'; exact hm'

theorem sortedT_spec (w : World) (b bm : Nat) (e : TypeId) (fz : Nat × Nat) (o : Obj) (l : List (Value × Value)) (u : PH) (hu : u.le w) (hbm : u bm = some (.cells #[.map (some b)] e fz)) (hb : u b = some o) (hm : MapI none o l) (hr : ∀ p ∈ l, (keyT p).length ≤ maxLen) (hs : l.length * 16 ≤ 140737488355328) :
    Spec Try.prog fSortedT [keysV fKeysT1 bm] PH.no w fun rs m' => ∃ v, rs = [.s v] ∧ SlO m' v 9 1 ((sortB (l.map keyT)).map fun b => .s (encStr b)) := by
  have hmax : l.length ≤ maxLen := by unfold maxLen; omega
  obtain ⟨nn, D0, hown, hperm, hsize⟩ := owns_str (kt := 9) Try.underlying9 (hu _ _ hb) hm hr hmax
  have hblk := hu _ _ hbm
  have hseq : SeqGives Fence.wide 2 Try.prog fKeysT1 #[ptr bm] encStr (fun ss => ss.Perm (strKeys D0)) (Maps.size D0) w :=
    AnyZ.keys_gives (ρ := Try.keysT_ren) { Try.keysT with } Fence.wide _ trivial rfl (by omega) bm b nn D0 w (Array.getElem?_eq_some_iff.1 hblk).1 (by rw [cell_of hblk]; rfl) hown
  have cS := AnyZ.sorted_in Try.sortedT Fence.wide 5 trivial trivial trivial trivial rfl (by omega) (sortsT _) (enters_of Try.func78 (by kernel_rfl) rfl) fKeysT1 #[ptr bm] trivial (enters_of Try.func79 (by kernel_rfl) rfl) _ _ (by rw [hsize]; exact hmax) (by rw [hsize]; exact hs) w hseq
  refine spec_row (et := 9) ((callsIn_wide.1 cS).mono fun e w' ⟨v, ss, he, hS, hrow, _, hbl⟩ => ?_)
  have hss : (ss.mergeSort fun x y => decide (x ≤ y)) = sortB (l.map keyT) := mergeSort_of_perm (hS.trans hperm)
  rw [hss] at hrow
  refine ⟨v, (sortB (l.map keyT)).map encStr, he, ?_, hbl, fun x hx => ?_, fun m' hm' => ⟨v, rfl, ?_⟩⟩
  · have : ((sortB (l.map keyT)).map encStr).length = ss.length := by rw [List.length_map, ← hss]; simp
    rw [this]; exact hrow
  · obtain ⟨n, _, rfl⟩ := List.mem_map.1 hx; rfl
  · rw [List.map_map] at hm'; exact hm'
end Go.Proofs.Ytdpknchgoeboaaa.Vc
