/- PathShares: where what is read is of bulk at most the row's bound, the law answers true and leaves its arguments as they were. -/
import Derived.Test.YtgjgbpnjodhhiaaDoorPp10
set_option linter.unusedVariables false
set_option linter.unusedSimpArgs false
set_option maxRecDepth 100000
namespace Go.Proofs.YtgjgbpnjodhhiaaDoor.Vc
open Go Go.Proofs Go.Proofs.YtgjgbpnjodhhiaaDoor Go.ChangeShapes Go.WideShapes Go.ChangeAt

theorem PathShares_reads (os : Os) {H : Type} (enc : TypeId × Value → H) : ∃ places, DataW.whole enc Tryd.prog ((laidWorld os).forCall (fun _ _ => 0) ⟨#[], #[.slice none 0 0, .int .i64 0], []⟩).memory Tryd.f6.params.toList Rows.pathSharesSpec.vars false #[Value.slice none 0 0, .int .i64 0].toList 8 = some ([.nil, .lit (.int .i64 0)], [], places) :=
  ⟨[], by kernel_rfl⟩
theorem PathShares_lifted (os : Os) (started : os.Started) (H : Type) (enc : TypeId × Value → H) (F : Stop.Interp) :
    ReturnsInHanded {} Tryd.checked os f_law20_PathShares .any ((Rows.OpenSpec.upto Rows.pathSharesSpec).preRow enc Tryd.prog Tryd.f6 Rows.pathSharesUptoRow.domain false Rows.pathSharesUptoRow.laid) (((Rows.OpenSpec.upto Rows.pathSharesSpec).at F).post enc Tryd.prog Tryd.f6 false true false false) := by
  obtain ⟨places, hx⟩ := PathShares_reads os enc
  exact law_lifted_upto (C := Tryd.checked) Tryd_own Tryd_laidOut started (by kernel_rfl) Tryd.func6
    (witness_row_at (enc := enc) (C := Tryd.checked) false (laidWorld os) #[.slice none 0 0, .int .i64 0] rfl (by kernel_rfl) (by kernel_rfl) (by kernel_rfl)
      (OpenSpec.preRow_of_cond 8 hx (by kernel_rfl) (fun k hk => by cases hk; kernel_rfl) (by kernel_rfl) (laid_met1 os _)))
    (by kernel_rfl) rfl (tb := 4) (by kernel_rfl) (by kernel_rfl) (ts := [22, 3]) (by kernel_rfl) (fun ds h => by match ds, h with | [d0, d1], _ => rfl) (PathShares_open enc)
theorem PathShares_upto : Rows.PathSharesUptoSaid :=
  OpenClaim.holds_of_cond f_law20_PathShares Tryd.f6 rfl rfl rfl rfl rfl rfl rfl ⟨rfl, rfl, rfl, rfl, rfl⟩ rfl rfl rfl rfl rfl (by kernel_rfl) Tryd.func6 (by kernel_rfl)
    (of_decide_eq_true (by kernel_rfl)) (by unfold Func.isWrapper; first | (rw [if_pos (by decide +kernel)]; kernel_rfl) | (rw [if_neg (by decide +kernel)]; exact ⟨rfl, rfl⟩))
    (fun os started H enc _ F => by rw [OpenClaim.pre_eq_preRow]; exact PathShares_lifted os started H enc F)
theorem PathShares_plain (f : FuncId) (fn : Func) (hf : Tryd.pinned.checked.prog.funcNamed "orchard/orchardlaw20.PathShares" = some f) (hfn : Tryd.pinned.checked.prog.funcs[f]? = some fn) :
    false = Tryd.pinned.checked.prog.looks [] ∧ ∀ (j : Nat) t, fn.params[j]? = some t → Tryd.pinned.checked.prog.wantsStandIn t = false := by
  obtain rfl : f = 6 := Option.some.inj ((show Tryd.prog.funcNamed "orchard/orchardlaw20.PathShares" = some 6 by kernel_rfl).symm.trans hf) |>.symm
  obtain rfl : fn = Tryd.f6 := (Option.some.inj (Tryd.func6.symm.trans hfn)).symm
  refine ⟨by kernel_rfl, fun j t ht => ?_⟩
  have hall : (Tryd.f6.params.toList.all fun t => !Tryd.pinned.checked.prog.wantsStandIn t) = true := by kernel_rfl
  have := List.all_eq_true.1 hall t (List.mem_of_getElem? (by simpa using ht))
  simpa using this
theorem PathShares_card : Rows.PathSharesUptoCardSaid :=
  Claim7.holds_tied_plain_at .later [] _ _ _ _ PathShares_upto (fun _ h => by cases h) (by kernel_rfl) (fun _ h => by cases h) pathSharesUpto_row_tie rfl ⟨rfl, rfl⟩ (by kernel_rfl) rfl PathShares_plain (by kernel_rfl)
#print axioms PathShares_card
end Go.Proofs.YtgjgbpnjodhhiaaDoor.Vc
