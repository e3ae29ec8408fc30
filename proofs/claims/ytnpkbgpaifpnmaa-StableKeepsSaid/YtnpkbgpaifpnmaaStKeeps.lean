/- StableKeeps: for every input the law answers true and leaves its arguments as they were. No condition. -/
import Derived.Test.YtnpkbgpaifpnmaaSt6
import Derived.Test.YtnpkbgpaifpnmaaVr0
import Derived.Test.YtnpkbgpaifpnmaaVr1
set_option linter.unusedVariables false
set_option linter.unusedSimpArgs false
set_option maxRecDepth 100000
namespace Go.Proofs.Ytnpkbgpaifpnmaa.Vc
open Go Go.Proofs Go.Proofs.Ytnpkbgpaifpnmaa Go.ChangeShapes Go.WideShapes Go.ChangeAt

theorem StableKeeps_open {H : Type} (enc : TypeId × Value → H) (W : World) (base : Nat) (vs : List Value) (h : RdVs enc Try.prog W base [29, 3, 2] vs) (_ : W.ShapedOpen Try.prog) : Spec Try.prog f_law18_StableKeeps vs PH.no W fun rs _ => rs = [.s (.bool true)] := by
  obtain ⟨v, vs, rfl, h1, h2, h⟩ := rdvs_cons h
  obtain ⟨v', vs, rfl, h1', h2', h⟩ := rdvs_cons h
  obtain ⟨v'', vs, rfl, h1'', h2'', h⟩ := rdvs_cons h
  obtain rfl := rdvs_nil h
  obtain ⟨q, rfl, _⟩ := rdv_agg (g := fun q => gView (View.ofRaw q 0)) (n0 := 9) (by kernel_rfl) (ks := kView) (by kernel_rfl) (fun q => gView_flat q 0) (fun q v e => by cases e) h1 h2
  obtain ⟨⟨n, rfl, _⟩, _⟩ := rdv_sc (k := .i .i64) (by kernel_rfl) (by kernel_rfl) h1' h2'
  obtain ⟨⟨m, rfl, _⟩, _⟩ := rdv_sc (k := .i .i64) (by kernel_rfl) (by kernel_rfl) h1'' h2''
  exact StableKeeps_fn (View.ofRaw q 0) n m W

theorem StableKeeps_lifted (os : Os) (started : os.Started) (H : Type) (enc : TypeId × Value → H) :
    ReturnsInHanded {} Try.checked os f_law18_StableKeeps .any (Rows.stableKeepsSpec.pre6 enc Try.prog Try.f6 Rows.stableKeepsRow.domain false) (Rows.stableKeepsSpec.post enc Try.prog Try.f6 false true false false) :=
  law_lifted (C := Try.checked) Try_own Try_laidOut started (by kernel_rfl) Try.func6
    (ChangeSpec.witness6 (enc := enc) (C := Try.checked) false ⟨#[], #[(gView zView).val, .int .i64 0, .int .i64 0], []⟩ 12 (by kernel_rfl) (by kernel_rfl) (by kernel_rfl) (by kernel_rfl))
    (by kernel_rfl) rfl (tb := 4) (by kernel_rfl) (by kernel_rfl) (ts := [29, 3, 2]) (by kernel_rfl) (fun ds h => by match ds, h with | [d0, d1, d2], _ => rfl) (StableKeeps_open enc)

theorem StableKeeps_holds : Rows.StableKeepsSaid :=
  OpenClaim.holds_of_wide f_law18_StableKeeps Try.f6 rfl rfl rfl rfl rfl rfl rfl ⟨rfl, rfl, rfl, rfl, rfl⟩ rfl rfl rfl rfl rfl (by kernel_rfl) Try.func6 (by kernel_rfl)
    (of_decide_eq_true (by kernel_rfl)) (by unfold Func.isWrapper; rw [if_neg (by decide +kernel)]; exact ⟨rfl, rfl⟩)
    (fun os started H enc _ => StableKeeps_lifted os started H enc)
#print axioms StableKeeps_holds
end Go.Proofs.Ytnpkbgpaifpnmaa.Vc
