/- StableCuts: for every input the law answers true and leaves its arguments as they were. No condition. -/
import Derived.Test.YtnpkbgpaifpnmaaSt8
import Derived.Test.YtnpkbgpaifpnmaaVr0
import Derived.Test.YtnpkbgpaifpnmaaVr1
set_option linter.unusedVariables false
set_option linter.unusedSimpArgs false
set_option maxRecDepth 100000
namespace Go.Proofs.Ytnpkbgpaifpnmaa.Vc
open Go Go.Proofs Go.Proofs.Ytnpkbgpaifpnmaa Go.ChangeShapes Go.WideShapes Go.ChangeAt

theorem bytes_Op : Try.prog.bytesOf 48 = 88 := by kernel_rfl
theorem cells_Op : Try.prog.cellsOf 48 = 8 := by kernel_rfl

/-- A list of operations that came in. -/
theorem open_Ops {H : Type} {enc : TypeId × Value → H} {W : World} {v : Value} (h : RdT enc Try.prog W 40 v) : ∃ l : List Op, SlR W.ph v 8 (l.map gOp) ∧ l.length * 88 ≤ 140737488351232 := by
  obtain ⟨l, h1, h2, _⟩ := rd_slice (t := 40) (e := 48) (n0 := 9) (ks := kOp) (g := fun q => gOp (Op.ofRaw q 0)) (by kernel_rfl) (by kernel_rfl) (by kernel_rfl) (by rw [cells_Op]; omega) (fun q => gOp_flat q 0) (fun q _ => gOp_ok _) (fun q => by rw [gOp_sz, cells_Op]) h
  rw [cells_Op] at h1
  rw [bytes_Op] at h2
  exact ⟨l.map fun q => Op.ofRaw q 0, by rw [List.map_map]; exact h1, by simpa [reachBytes] using h2⟩

theorem StableCuts_open {H : Type} (enc : TypeId × Value → H) (W : World) (base : Nat) (vs : List Value) (h : RdVs enc Try.prog W base [2, 40] vs) (_ : W.ShapedOpen Try.prog) : Spec Try.prog f_law18_StableCuts vs PH.no W fun rs _ => rs = [.s (.bool true)] := by
  obtain ⟨v, vs, rfl, h1, h2, h⟩ := rdvs_cons h
  obtain ⟨v', vs, rfl, h1', h2', h⟩ := rdvs_cons h
  obtain rfl := rdvs_nil h
  obtain ⟨⟨n, rfl, _⟩, _⟩ := rdv_sc (k := .i .i64) (by kernel_rfl) (by kernel_rfl) h1 h2
  obtain ⟨l, h3, h4⟩ := open_Ops (rdv_slice (e := 48) (by kernel_rfl) h1' h2')
  exact StableCuts_spec W v' n l h4 W.ph (fun _ _ h => h) h3

theorem StableCuts_lifted (os : Os) (started : os.Started) (H : Type) (enc : TypeId × Value → H) :
    ReturnsInHanded {} Try.checked os f_law18_StableCuts .any (Rows.stableCutsSpec.pre6 enc Try.prog Try.f5 Rows.stableCutsRow.domain false) (Rows.stableCutsSpec.post enc Try.prog Try.f5 false true false false) :=
  law_lifted (C := Try.checked) Try_own Try_laidOut started (by kernel_rfl) Try.func5
    (ChangeSpec.witness6 (enc := enc) (C := Try.checked) false ⟨#[], #[.int .i64 0, .slice none 0 0], []⟩ 12 (by kernel_rfl) (by kernel_rfl) (by kernel_rfl) (by kernel_rfl))
    (by kernel_rfl) rfl (tb := 4) (by kernel_rfl) (by kernel_rfl) (ts := [2, 40]) (by kernel_rfl) (fun ds h => by match ds, h with | [d0, d1], _ => rfl) (StableCuts_open enc)

theorem StableCuts_holds : Rows.StableCutsSaid :=
  OpenClaim.holds_of_wide f_law18_StableCuts Try.f5 rfl rfl rfl rfl rfl rfl rfl ⟨rfl, rfl, rfl, rfl, rfl⟩ rfl rfl rfl rfl rfl (by kernel_rfl) Try.func5 (by kernel_rfl)
    (of_decide_eq_true (by kernel_rfl)) (by unfold Func.isWrapper; rw [if_neg (by decide +kernel)]; exact ⟨rfl, rfl⟩)
    (fun os started H enc _ => StableCuts_lifted os started H enc)
#print axioms StableCuts_holds
end Go.Proofs.Ytnpkbgpaifpnmaa.Vc
