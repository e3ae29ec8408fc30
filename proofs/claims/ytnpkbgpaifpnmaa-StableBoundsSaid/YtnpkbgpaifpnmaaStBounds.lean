/- StableBounds: for every input the law answers true and leaves its argument as it was. No condition. -/
import Derived.Test.YtnpkbgpaifpnmaaRows
import Derived.Test.YtnpkbgpaifpnmaaSt3
import Derived.Test.YtnpkbgpaifpnmaaVr1
set_option linter.unusedVariables false
set_option linter.unusedSimpArgs false
set_option maxRecDepth 100000
namespace Go.Proofs.Ytnpkbgpaifpnmaa.Vc
open Go Go.Proofs Go.Proofs.Ytnpkbgpaifpnmaa Go.ChangeShapes Go.WideShapes Go.ChangeAt

theorem Try_own : ownKnob Try.prog.godebug = none := by kernel_rfl
theorem Try_laidOut : laidOutB Try.prog = true := by kernel_rfl

theorem open_View {W : World} {r : Reach} {base : Nat} {v : Value} (h : Value.okWide Try.prog W r base 29 v) : ∃ x : View, v = (gView x).val := by
  obtain ⟨q, rfl, _⟩ := open_agg (ts := (Try.prog.cellTypes Try.prog.depth 29).getD []) (ks := kView) (by kernel_rfl) (by kernel_rfl) (by kernel_rfl) (by kernel_rfl) h
  exact ⟨View.ofRaw q 0, by rw [val_agg (fun v e => by cases e), gView_flat]⟩

theorem StableBounds_lifted (os : Os) (started : os.Started) (H : Type) (enc : TypeId × Value → H) :
    ReturnsInHanded {} Try.checked os f_law18_StableBounds .any (Rows.stableBoundsSpec.pre6 enc Try.prog Try.f3 Rows.stableBoundsRow.domain false) (Rows.stableBoundsSpec.post enc Try.prog Try.f3 false true false false) := by
  refine returnsInHanded_of_change (C := Try.checked) Try_own started (by kernel_rfl) Try.func3
    (ChangeSpec.witness6 (enc := enc) (C := Try.checked) false ⟨#[], #[(gView zView).val], []⟩ 12 (by kernel_rfl) (by kernel_rfl) (by kernel_rfl) (by kernel_rfl)) ?_
  intro W base args ds gs before hval hW hcnd _
  have hW' := hW
  obtain ⟨p, q, hA, hV, rfl, hfz, hnd⟩ := hW'
  obtain ⟨rfl, rfl⟩ := trodVars_none hV
  have hA' : DataW.TrodAll enc Try.prog W 0 (fun _ => true) true [29] args.toList ds p := hA
  obtain ⟨v0, d0, rfl, rfl, h0⟩ := trodAll_one hA'
  obtain ⟨x, rfl⟩ := open_View (hval 0 29 v0 rfl rfl)
  exact (contract_true (again := false) Try_laidOut (by kernel_rfl) rfl (tb := 4) (by kernel_rfl) (by kernel_rfl) rfl hW (StableBounds_fn x W)).mono fun e W' ⟨v, h1, h2, _⟩ => ⟨v, h1, h2⟩

theorem StableBounds_holds : Rows.StableBoundsSaid :=
  OpenClaim.holds_of_wide f_law18_StableBounds Try.f3 rfl rfl rfl rfl rfl rfl rfl ⟨rfl, rfl, rfl, rfl, rfl⟩ rfl rfl rfl rfl rfl (by kernel_rfl) Try.func3 (by kernel_rfl)
    (of_decide_eq_true (by kernel_rfl)) (by unfold Func.isWrapper; rw [if_neg (by decide +kernel)]; exact ⟨rfl, rfl⟩)
    (fun os started H enc _ => StableBounds_lifted os started H enc)
#print axioms StableBounds_holds
end Go.Proofs.Ytnpkbgpaifpnmaa.Vc
