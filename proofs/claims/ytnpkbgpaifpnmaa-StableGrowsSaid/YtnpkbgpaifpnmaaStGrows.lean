/- StableGrows: for every input the law answers true and leaves its arguments as they were. No condition. -/
import Derived.Test.YtnpkbgpaifpnmaaSt10
import Derived.Test.YtnpkbgpaifpnmaaStCuts
set_option linter.unusedVariables false
set_option linter.unusedSimpArgs false
set_option maxRecDepth 100000
namespace Go.Proofs.Ytnpkbgpaifpnmaa.Vc
open Go Go.Proofs Go.Proofs.Ytnpkbgpaifpnmaa Go.ChangeShapes Go.WideShapes Go.ChangeAt

theorem StableGrows_open {H : Type} (enc : TypeId × Value → H) (W : World) (base : Nat) (vs : List Value) (h : RdVs enc Try.prog W base [29, 29, 2, 40] vs) (_ : W.ShapedOpen Try.prog) : Spec Try.prog f_law18_StableGrows vs PH.no W fun rs _ => rs = [.s (.bool true)] := by
  obtain ⟨v, vs, rfl, h1, h2, h⟩ := rdvs_cons h
  obtain ⟨y, vs, rfl, g1, g2, h⟩ := rdvs_cons h
  obtain ⟨t, vs, rfl, k1, k2, h⟩ := rdvs_cons h
  obtain ⟨v', vs, rfl, h1', h2', h⟩ := rdvs_cons h
  obtain rfl := rdvs_nil h
  obtain ⟨q, rfl, _⟩ := rdv_agg (g := fun q => gView (View.ofRaw q 0)) (n0 := 9) (by kernel_rfl) (ks := kView) (by kernel_rfl) (fun q => gView_flat q 0) (fun q v e => by cases e) h1 h2
  obtain ⟨p, rfl, _⟩ := rdv_agg (g := fun q => gView (View.ofRaw q 0)) (n0 := 9) (by kernel_rfl) (ks := kView) (by kernel_rfl) (fun q => gView_flat q 0) (fun q v e => by cases e) g1 g2
  obtain ⟨⟨n, rfl, _⟩, _⟩ := rdv_sc (k := .i .i64) (by kernel_rfl) (by kernel_rfl) k1 k2
  obtain ⟨l, h3, h4⟩ := open_Ops (rdv_slice (e := 48) (by kernel_rfl) h1' h2')
  exact StableGrows_spec W v' (View.ofRaw q 0) (View.ofRaw p 0) n l h4 W.ph (fun _ _ h => h) h3

theorem StableGrows_lifted (os : Os) (started : os.Started) (H : Type) (enc : TypeId × Value → H) :
    ReturnsInHanded {} Try.checked os f_law18_StableGrows .any (Rows.stableGrowsSpec.pre6 enc Try.prog Try.f7 Rows.stableGrowsRow.domain false) (Rows.stableGrowsSpec.post enc Try.prog Try.f7 false true false false) :=
  law_lifted (C := Try.checked) Try_own Try_laidOut started (by kernel_rfl) Try.func7
    (ChangeSpec.witness6 (enc := enc) (C := Try.checked) false ⟨#[], #[(gView zView).val, (gView zView).val, .int .i64 0, .slice none 0 0], []⟩ 12 (by kernel_rfl) (by kernel_rfl) (by kernel_rfl) (by kernel_rfl))
    (by kernel_rfl) rfl (tb := 4) (by kernel_rfl) (by kernel_rfl) (ts := [29, 29, 2, 40]) (by kernel_rfl) (fun ds h => by match ds, h with | [d0, d1, d2, d3], _ => rfl) (StableGrows_open enc)

theorem StableGrows_holds : Rows.StableGrowsSaid :=
  OpenClaim.holds_of_wide f_law18_StableGrows Try.f7 rfl rfl rfl rfl rfl rfl rfl ⟨rfl, rfl, rfl, rfl, rfl⟩ rfl rfl rfl rfl rfl (by kernel_rfl) Try.func7 (by kernel_rfl)
    (of_decide_eq_true (by kernel_rfl)) (by unfold Func.isWrapper; rw [if_neg (by decide +kernel)]; exact ⟨rfl, rfl⟩)
    (fun os started H enc _ => StableGrows_lifted os started H enc)
#print axioms StableGrows_holds
end Go.Proofs.Ytnpkbgpaifpnmaa.Vc
