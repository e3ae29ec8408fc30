/- StableNothingBelow: for every input the law answers true and leaves its arguments as they were. No condition. -/
import Derived.Test.YtnpkbgpaifpnmaaSn2
import Derived.Test.YtnpkbgpaifpnmaaStCuts
set_option linter.unusedVariables false
set_option linter.unusedSimpArgs false
set_option maxRecDepth 100000
namespace Go.Proofs.Ytnpkbgpaifpnmaa.Vc
open Go Go.Proofs Go.Proofs.Ytnpkbgpaifpnmaa Go.ChangeShapes Go.WideShapes Go.ChangeAt

theorem bytes_Event : Try.prog.bytesOf 38 = 32 := by kernel_rfl
theorem cells_Event : Try.prog.cellsOf 38 = 4 := by kernel_rfl
/-- A list of events that came in. -/
theorem open_Events {H : Type} {enc : TypeId × Value → H} {W : World} {v : Value} (h : RdT enc Try.prog W 34 v) : ∃ l : List Event, SlR W.ph v 4 (l.map gEvent) ∧ l.length * 32 ≤ 140737488351232 := by
  obtain ⟨l, h1, h2, _⟩ := rd_slice (t := 34) (e := 38) (n0 := 9) (ks := kEvent) (g := fun q => gEvent (Event.ofRaw q 0)) (by kernel_rfl) (by kernel_rfl) (by kernel_rfl) (by rw [cells_Event]; omega) (fun q => gEvent_flat q 0) (fun q _ => gEvent_ok _) (fun q => by rw [gEvent_sz, cells_Event]) h
  rw [cells_Event] at h1
  rw [bytes_Event] at h2
  exact ⟨l.map fun q => Event.ofRaw q 0, by rw [List.map_map]; exact h1, by simpa [reachBytes] using h2⟩

theorem StableNothingBelow_open {H : Type} (enc : TypeId × Value → H) (W : World) (base : Nat) (vs : List Value) (h : RdVs enc Try.prog W base [5, 34] vs) (_ : W.ShapedOpen Try.prog) : Spec Try.prog f_law18_StableNothingBelow vs PH.no W fun rs _ => rs = [.s (.bool true)] := by
  obtain ⟨v, vs, rfl, h1, h2, h⟩ := rdvs_cons h
  obtain ⟨v', vs, rfl, h1', h2', h⟩ := rdvs_cons h
  obtain rfl := rdvs_nil h
  obtain ⟨⟨n, rfl, _⟩, _⟩ := rdv_sc (k := .i .u8) (by kernel_rfl) (by kernel_rfl) h1 h2
  obtain ⟨l, h3, h4⟩ := open_Events (rdv_slice (e := 38) (by kernel_rfl) h1' h2')
  exact StableNothingBelow_spec W v' n l h4 W.ph (fun _ _ h => h) h3

theorem StableNothingBelow_lifted (os : Os) (started : os.Started) (H : Type) (enc : TypeId × Value → H) :
    ReturnsInHanded {} Try.checked os f_law18_StableNothingBelow .any (Rows.stableNothingBelowSpec.pre6 enc Try.prog Try.f4 Rows.stableNothingBelowRow.domain false) (Rows.stableNothingBelowSpec.post enc Try.prog Try.f4 false true false false) :=
  law_lifted (C := Try.checked) Try_own Try_laidOut started (by kernel_rfl) Try.func4
    (ChangeSpec.witness6 (enc := enc) (C := Try.checked) false ⟨#[], #[.int .u8 0, .slice none 0 0], []⟩ 12 (by kernel_rfl) (by kernel_rfl) (by kernel_rfl) (by kernel_rfl))
    (by kernel_rfl) rfl (tb := 4) (by kernel_rfl) (by kernel_rfl) (ts := [5, 34]) (by kernel_rfl) (fun ds h => by match ds, h with | [d0, d1], _ => rfl) (StableNothingBelow_open enc)

theorem StableNothingBelow_holds : Rows.StableNothingBelowSaid :=
  OpenClaim.holds_of_wide f_law18_StableNothingBelow Try.f4 rfl rfl rfl rfl rfl rfl rfl ⟨rfl, rfl, rfl, rfl, rfl⟩ rfl rfl rfl rfl rfl (by kernel_rfl) Try.func4 (by kernel_rfl)
    (of_decide_eq_true (by kernel_rfl)) (by unfold Func.isWrapper; rw [if_neg (by decide +kernel)]; exact ⟨rfl, rfl⟩)
    (fun os started H enc _ => StableNothingBelow_lifted os started H enc)
#print axioms StableNothingBelow_holds
end Go.Proofs.Ytnpkbgpaifpnmaa.Vc
