/- PathCommon: where what is read is of bulk at most the row's bound, the law answers true and leaves its arguments as they were. -/
import Derived.Test.YtgjgbpnjodhhiaaDoorPp10
set_option linter.unusedVariables false
set_option linter.unusedSimpArgs false
set_option maxRecDepth 100000
namespace Go.Proofs.YtgjgbpnjodhhiaaDoor.Vc
open Go Go.Proofs Go.Proofs.YtgjgbpnjodhhiaaDoor Go.ChangeShapes Go.WideShapes Go.ChangeAt

theorem PathCommon_reads (os : Os) {H : Type} (enc : TypeId × Value → H) : ∃ places, DataW.whole enc Tryd.prog ((laidWorld os).forCall (fun _ _ => 0) ⟨#[], #[.slice none 0 0], []⟩).memory Tryd.f5.params.toList Rows.pathCommonSpec.vars false #[Value.slice none 0 0].toList 8 = some ([.nil], [], places) :=
  ⟨[], by kernel_rfl⟩
theorem PathCommon_lifted (os : Os) (started : os.Started) (H : Type) (enc : TypeId × Value → H) (F : Stop.Interp) :
    ReturnsInHanded {} Tryd.checked os f_law20_PathCommon .any ((Rows.OpenSpec.upto Rows.pathCommonSpec).preRow enc Tryd.prog Tryd.f5 Rows.pathCommonUptoRow.domain false Rows.pathCommonUptoRow.laid) (((Rows.OpenSpec.upto Rows.pathCommonSpec).at F).post enc Tryd.prog Tryd.f5 false true false false) := by
  obtain ⟨places, hx⟩ := PathCommon_reads os enc
  exact law_lifted_upto (C := Tryd.checked) Tryd_own Tryd_laidOut started (by kernel_rfl) Tryd.func5
    (witness_row_at (enc := enc) (C := Tryd.checked) false (laidWorld os) #[.slice none 0 0] rfl (by kernel_rfl) (by kernel_rfl) (by kernel_rfl)
      (OpenSpec.preRow_of_cond 8 hx (by kernel_rfl) (fun k hk => by cases hk; kernel_rfl) (by kernel_rfl) (laid_met1 os _)))
    (by kernel_rfl) rfl (tb := 4) (by kernel_rfl) (by kernel_rfl) (ts := [22]) (by kernel_rfl) (fun ds h => by match ds, h with | [d0], _ => rfl) (PathCommon_open enc)
theorem PathCommon_upto : Rows.PathCommonUptoSaid :=
  OpenClaim.holds_of_cond f_law20_PathCommon Tryd.f5 rfl rfl rfl rfl rfl rfl rfl ⟨rfl, rfl, rfl, rfl, rfl⟩ rfl rfl rfl rfl rfl (by kernel_rfl) Tryd.func5 (by kernel_rfl)
    (of_decide_eq_true (by kernel_rfl)) (by unfold Func.isWrapper; first | (rw [if_pos (by decide +kernel)]; kernel_rfl) | (rw [if_neg (by decide +kernel)]; exact ⟨rfl, rfl⟩))
    (fun os started H enc _ F => by rw [OpenClaim.pre_eq_preRow]; exact PathCommon_lifted os started H enc F)
theorem PathCommon_plain (f : FuncId) (fn : Func) (hf : Tryd.pinned.checked.prog.funcNamed "orchard/orchardlaw20.PathCommon" = some f) (hfn : Tryd.pinned.checked.prog.funcs[f]? = some fn) :
    false = Tryd.pinned.checked.prog.looks [] ∧ ∀ (j : Nat) t, fn.params[j]? = some t → Tryd.pinned.checked.prog.wantsStandIn t = false := by
  obtain rfl : f = 5 := Option.some.inj ((show Tryd.prog.funcNamed "orchard/orchardlaw20.PathCommon" = some 5 by kernel_rfl).symm.trans hf) |>.symm
  obtain rfl : fn = Tryd.f5 := (Option.some.inj (Tryd.func5.symm.trans hfn)).symm
  refine ⟨by kernel_rfl, fun j t ht => ?_⟩
  have hall : (Tryd.f5.params.toList.all fun t => !Tryd.pinned.checked.prog.wantsStandIn t) = true := by kernel_rfl
  have := List.all_eq_true.1 hall t (List.mem_of_getElem? (by simpa using ht))
  simpa using this
theorem PathCommon_card : Rows.PathCommonUptoCardSaid :=
  Claim7.holds_tied_plain_at .later [] _ _ _ _ PathCommon_upto (fun _ h => by cases h) (by kernel_rfl) (fun _ h => by cases h) pathCommonUpto_row_tie rfl ⟨rfl, rfl⟩ (by kernel_rfl) rfl PathCommon_plain (by kernel_rfl)
#print axioms PathCommon_card
end Go.Proofs.YtgjgbpnjodhhiaaDoor.Vc
