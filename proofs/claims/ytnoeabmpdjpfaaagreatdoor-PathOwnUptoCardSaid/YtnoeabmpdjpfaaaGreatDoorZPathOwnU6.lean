/- PathOwn: where what is read is of bulk at most the row's bound, the law answers true and leaves its arguments as they were: the row with a bound, and its card. -/
import Derived.Test.YtnoeabmpdjpfaaaGreatDoorProg
import Derived.Lib.Walk
import Derived.Lib.Small
import Derived.StillTailTactics
import Derived.Shelf.SlSortCmp.InsertionK
import Derived.Shelf.SlLaysF0
import Derived.Ground.SlsfProg
import Derived.Shelf.SlSortCmp.WholeK
import Derived.Shelf.SlSortCmp.NoneTotal
import Derived.Test.YtnoeabmpdjpfaaaGreatDoorCards
import Derived.Test.YtnoeabmpdjpfaaaGreatDoorTie
import Derived.Deep.DeepWitnessRowRef
import Derived.Shelf.Vars
import Derived.Test.YtnoeabmpdjpfaaaGreatDoorZPathOwnU5
/- A tree asked for a node, and whether one is below another. -/
set_option linter.unusedVariables false
set_option linter.unusedSimpArgs false
set_option maxRecDepth 100000
namespace Go.Proofs.YtnoeabmpdjpfaaaGreatDoor.Vc
open Go Go.Proofs

section
variable {w : World} {u : PH} {L : Lay} {T : PT}
theorem Node_spec (hu : u.le w) (hT : TM u L T) (n : Int) (hsm : ∀ x, T.get n = some x → x.small) :
    Spec Tryz.prog f_tree_Tree_Node [ptr (L .t), .int .i64 n] PH.no w fun rs m' => (T.get n = none → rs = [gTreeNode zTreeNode, .s (.bool false)]) ∧ ∀ x, T.get n = some x → ∃ v, rs = [gTreeNode ⟨n, x.parent, x.name, v⟩, .s (.bool true)] ∧ SlO m' v 55 2 ((attrsOf x).map gAttr) := by
  refine spec_of k_tree_Tree_Node [.g (.s (ptr (L .t))), .g (.s (.int .i64 n))] (by simp) (by simp [AV.ok, GV.ok, Value.oneCell', ptr]) ?_
  have hk : ∀ {l : List PH}, KN (⟨Tryz.prog, 21, w, PH.no⟩ : Ctx).u0 l u := kn_u hu
  simp (maxSteps := 2000000) only [c_tree_Tree_Node, vc_skip, vc_ret, vc_exit, vc_seq, vc_block, vc_scope, scopeQ_n, scopeQ_r, scopeQ_e, vc_rg, vc_rgq, vc_rga, vc_ite, thenQ_n, thenQ_r, thenQ_e, blockQ_n, blockQ_r, blockQ_e, kKeep_eq, loopQ_r, loopQ_e, loopQ_n, finQ_r, finQ_n, segs_nil, segs_n, segs_g, ops_nil, ops_cons, qsegs_nil, qsegs_n, qsegs_g, qops_nil, qops_cons, ot_done, ot_op, ot_or, List.contains_cons, List.contains_nil, Bool.or_false, Bool.or_true, Bool.true_or, Bool.false_or, vcqOp, vcOp, isRd, RO.isGh, skip_mk, skipL, ev, evL, gvL, scL, look, updL, put_mk, put_mk0, keep_mk, keepL, rowE, rowD, bndN, binV, binC, unV, GV.getT, GV.fld, GV.sz, GV.same, GV.setT, Value.oneCell', cond_true, cond_false, Nat.reduceEqDiff, Nat.reduceAdd, Nat.reduceMul, Nat.reduceSub, Nat.reduceBEq, Nat.reduceLeDiff, ↓reduceIte, reduceCtorEq, List.nil_append, List.cons_append, List.append_nil, Nat.zero_add, Nat.add_zero, Bool.and_true, Bool.true_and, Bool.not_true, Bool.not_false, BEq.rfl, decide_true, decide_false, true_and, and_true, initF, initP, List.map_cons, List.map_nil, Option.map_some, szAll, List.length_cons, List.length_nil, finW_r, finW_n, resL, resOne, Option.bind_some, true_imp_iff, false_imp_iff, Bool.true_eq_false, Bool.false_eq_true, Int.toNat_natCast, Int.reduceToNat, Int.reduceLE, Int.reduceLT, Int.reduceAdd, Int.reduceSub, Int.reduceEq, decide_eq_true_eq, decide_eq_false_iff_not, kill, SV.mentions, ne_eq, not_false_eq_true, not_true_eq_false, List.drop_zero, List.take_succ_cons, List.take_zero, dOk, ↓br_tt, ↓br_ff, ↓br_tf, ↓br_ft, br_t, br_f, Bool.bne_false, Bool.bne_true, GV.bldT, GV.bldC, same_int, getT_nil, setT_nil, getD_gi, List.length_map, fits_s, fits_c, fits_ar, arr_ar, get_nil, gPlace_sz, gPlace_fits, gPlace_isS, gPlace_same, gPlace_fld0, gPlace_get0, gPlace_set0, gPlace_fld1, gPlace_get1, gPlace_set1, gPlace_zero, getD_gPlace, gTreeNode_sz, gTreeNode_fits, gTreeNode_isS, gTreeNode_same, gTreeNode_fld0, gTreeNode_get0, gTreeNode_set0, gTreeNode_fld1, gTreeNode_get1, gTreeNode_set1, gTreeNode_fld2, gTreeNode_get2, gTreeNode_set2, gTreeNode_fld3, gTreeNode_get3, gTreeNode_set3, gTreeNode_zero, getD_gTreeNode, ptr, nptr_some, nptr_none]
  refine call_is _ [.s (.bool false)] rfl rfl (fun w' vs hv hw => ?_) ?_
  · obtain ⟨vs, rfl, _, hv⟩ := argsV_g hv
    obtain rfl := argsV_nil hv
    intro _
    exact none_spec (fun b o h => hw b o (by rw [u0_no]; exact hu b o h)) hT
  simp (maxSteps := 2000000) only [retS, vc_skip, vc_ret, vc_exit, vc_seq, vc_block, vc_scope, scopeQ_n, scopeQ_r, scopeQ_e, vc_rg, vc_rgq, vc_rga, vc_ite, thenQ_n, thenQ_r, thenQ_e, blockQ_n, blockQ_r, blockQ_e, kKeep_eq, loopQ_r, loopQ_e, loopQ_n, finQ_r, finQ_n, segs_nil, segs_n, segs_g, ops_nil, ops_cons, qsegs_nil, qsegs_n, qsegs_g, qops_nil, qops_cons, ot_done, ot_op, ot_or, List.contains_cons, List.contains_nil, Bool.or_false, Bool.or_true, Bool.true_or, Bool.false_or, vcqOp, vcOp, isRd, RO.isGh, skip_mk, skipL, ev, evL, gvL, scL, look, updL, put_mk, put_mk0, keep_mk, keepL, rowE, rowD, bndN, binV, binC, unV, GV.getT, GV.fld, GV.sz, GV.same, GV.setT, Value.oneCell', cond_true, cond_false, Nat.reduceEqDiff, Nat.reduceAdd, Nat.reduceMul, Nat.reduceSub, Nat.reduceBEq, Nat.reduceLeDiff, ↓reduceIte, reduceCtorEq, List.nil_append, List.cons_append, List.append_nil, Nat.zero_add, Nat.add_zero, Bool.and_true, Bool.true_and, Bool.not_true, Bool.not_false, BEq.rfl, decide_true, decide_false, true_and, and_true, initF, initP, List.map_cons, List.map_nil, Option.map_some, szAll, List.length_cons, List.length_nil, finW_r, finW_n, resL, resOne, Option.bind_some, true_imp_iff, false_imp_iff, Bool.true_eq_false, Bool.false_eq_true, Int.toNat_natCast, Int.reduceToNat, Int.reduceLE, Int.reduceLT, Int.reduceAdd, Int.reduceSub, Int.reduceEq, decide_eq_true_eq, decide_eq_false_iff_not, kill, SV.mentions, ne_eq, not_false_eq_true, not_true_eq_false, List.drop_zero, List.take_succ_cons, List.take_zero, dOk, ↓br_tt, ↓br_ff, ↓br_tf, ↓br_ft, br_t, br_f, Bool.bne_false, Bool.bne_true, GV.bldT, GV.bldC, same_int, getT_nil, setT_nil, getD_gi, List.length_map, fits_s, fits_c, fits_ar, arr_ar, get_nil, gPlace_sz, gPlace_fits, gPlace_isS, gPlace_same, gPlace_fld0, gPlace_get0, gPlace_set0, gPlace_fld1, gPlace_get1, gPlace_set1, gPlace_zero, getD_gPlace, gTreeNode_sz, gTreeNode_fits, gTreeNode_isS, gTreeNode_same, gTreeNode_fld0, gTreeNode_get0, gTreeNode_set0, gTreeNode_fld1, gTreeNode_get1, gTreeNode_set1, gTreeNode_fld2, gTreeNode_get2, gTreeNode_set2, gTreeNode_fld3, gTreeNode_get3, gTreeNode_set3, gTreeNode_zero, getD_gTreeNode, ptr, nptr_some, nptr_none]
  refine ld_of _ (hT.s_map hk) rfl ?_
  simp (maxSteps := 2000000) only [vc_skip, vc_ret, vc_exit, vc_seq, vc_block, vc_scope, scopeQ_n, scopeQ_r, scopeQ_e, vc_rg, vc_rgq, vc_rga, vc_ite, thenQ_n, thenQ_r, thenQ_e, blockQ_n, blockQ_r, blockQ_e, kKeep_eq, loopQ_r, loopQ_e, loopQ_n, finQ_r, finQ_n, segs_nil, segs_n, segs_g, ops_nil, ops_cons, qsegs_nil, qsegs_n, qsegs_g, qops_nil, qops_cons, ot_done, ot_op, ot_or, List.contains_cons, List.contains_nil, Bool.or_false, Bool.or_true, Bool.true_or, Bool.false_or, vcqOp, vcOp, isRd, RO.isGh, skip_mk, skipL, ev, evL, gvL, scL, look, updL, put_mk, put_mk0, keep_mk, keepL, rowE, rowD, bndN, binV, binC, unV, GV.getT, GV.fld, GV.sz, GV.same, GV.setT, Value.oneCell', cond_true, cond_false, Nat.reduceEqDiff, Nat.reduceAdd, Nat.reduceMul, Nat.reduceSub, Nat.reduceBEq, Nat.reduceLeDiff, ↓reduceIte, reduceCtorEq, List.nil_append, List.cons_append, List.append_nil, Nat.zero_add, Nat.add_zero, Bool.and_true, Bool.true_and, Bool.not_true, Bool.not_false, BEq.rfl, decide_true, decide_false, true_and, and_true, initF, initP, List.map_cons, List.map_nil, Option.map_some, szAll, List.length_cons, List.length_nil, finW_r, finW_n, resL, resOne, Option.bind_some, true_imp_iff, false_imp_iff, Bool.true_eq_false, Bool.false_eq_true, Int.toNat_natCast, Int.reduceToNat, Int.reduceLE, Int.reduceLT, Int.reduceAdd, Int.reduceSub, Int.reduceEq, decide_eq_true_eq, decide_eq_false_iff_not, kill, SV.mentions, ne_eq, not_false_eq_true, not_true_eq_false, List.drop_zero, List.take_succ_cons, List.take_zero, dOk, ↓br_tt, ↓br_ff, ↓br_tf, ↓br_ft, br_t, br_f, Bool.bne_false, Bool.bne_true, GV.bldT, GV.bldC, same_int, getT_nil, setT_nil, getD_gi, List.length_map, fits_s, fits_c, fits_ar, arr_ar, get_nil, gPlace_sz, gPlace_fits, gPlace_isS, gPlace_same, gPlace_fld0, gPlace_get0, gPlace_set0, gPlace_fld1, gPlace_get1, gPlace_set1, gPlace_zero, getD_gPlace, gTreeNode_sz, gTreeNode_fits, gTreeNode_isS, gTreeNode_same, gTreeNode_fld0, gTreeNode_get0, gTreeNode_set0, gTreeNode_fld1, gTreeNode_get1, gTreeNode_set1, gTreeNode_fld2, gTreeNode_get2, gTreeNode_set2, gTreeNode_fld3, gTreeNode_get3, gTreeNode_set3, gTreeNode_zero, getD_gTreeNode, ptr, nptr_some, nptr_none]
  refine hT.lk hk n ?_
  cases hx : T.get n with
  | none =>
    simp (maxSteps := 2000000) only [vc_skip, vc_ret, vc_exit, vc_seq, vc_block, vc_scope, scopeQ_n, scopeQ_r, scopeQ_e, vc_rg, vc_rgq, vc_rga, vc_ite, thenQ_n, thenQ_r, thenQ_e, blockQ_n, blockQ_r, blockQ_e, kKeep_eq, loopQ_r, loopQ_e, loopQ_n, finQ_r, finQ_n, segs_nil, segs_n, segs_g, ops_nil, ops_cons, qsegs_nil, qsegs_n, qsegs_g, qops_nil, qops_cons, ot_done, ot_op, ot_or, List.contains_cons, List.contains_nil, Bool.or_false, Bool.or_true, Bool.true_or, Bool.false_or, vcqOp, vcOp, isRd, RO.isGh, skip_mk, skipL, ev, evL, gvL, scL, look, updL, put_mk, put_mk0, keep_mk, keepL, rowE, rowD, bndN, binV, binC, unV, GV.getT, GV.fld, GV.sz, GV.same, GV.setT, Value.oneCell', cond_true, cond_false, Nat.reduceEqDiff, Nat.reduceAdd, Nat.reduceMul, Nat.reduceSub, Nat.reduceBEq, Nat.reduceLeDiff, ↓reduceIte, reduceCtorEq, List.nil_append, List.cons_append, List.append_nil, Nat.zero_add, Nat.add_zero, Bool.and_true, Bool.true_and, Bool.not_true, Bool.not_false, BEq.rfl, decide_true, decide_false, true_and, and_true, initF, initP, List.map_cons, List.map_nil, Option.map_some, szAll, List.length_cons, List.length_nil, finW_r, finW_n, resL, resOne, Option.bind_some, true_imp_iff, false_imp_iff, Bool.true_eq_false, Bool.false_eq_true, Int.toNat_natCast, Int.reduceToNat, Int.reduceLE, Int.reduceLT, Int.reduceAdd, Int.reduceSub, Int.reduceEq, decide_eq_true_eq, decide_eq_false_iff_not, kill, SV.mentions, ne_eq, not_false_eq_true, not_true_eq_false, List.drop_zero, List.take_succ_cons, List.take_zero, dOk, ↓br_tt, ↓br_ff, ↓br_tf, ↓br_ft, br_t, br_f, Bool.bne_false, Bool.bne_true, GV.bldT, GV.bldC, same_int, getT_nil, setT_nil, getD_gi, List.length_map, fits_s, fits_c, fits_ar, arr_ar, get_nil, gPlace_sz, gPlace_fits, gPlace_isS, gPlace_same, gPlace_fld0, gPlace_get0, gPlace_set0, gPlace_fld1, gPlace_get1, gPlace_set1, gPlace_zero, getD_gPlace, gTreeNode_sz, gTreeNode_fits, gTreeNode_isS, gTreeNode_same, gTreeNode_fld0, gTreeNode_get0, gTreeNode_set0, gTreeNode_fld1, gTreeNode_get1, gTreeNode_set1, gTreeNode_fld2, gTreeNode_get2, gTreeNode_set2, gTreeNode_fld3, gTreeNode_get3, gTreeNode_set3, gTreeNode_zero, getD_gTreeNode, ptr, nptr_some, nptr_none]
    refine eq_of eqNode0 ?_
    simp (maxSteps := 2000000) only [vc_skip, vc_ret, vc_exit, vc_seq, vc_block, vc_scope, scopeQ_n, scopeQ_r, scopeQ_e, vc_rg, vc_rgq, vc_rga, vc_ite, thenQ_n, thenQ_r, thenQ_e, blockQ_n, blockQ_r, blockQ_e, kKeep_eq, loopQ_r, loopQ_e, loopQ_n, finQ_r, finQ_n, segs_nil, segs_n, segs_g, ops_nil, ops_cons, qsegs_nil, qsegs_n, qsegs_g, qops_nil, qops_cons, ot_done, ot_op, ot_or, List.contains_cons, List.contains_nil, Bool.or_false, Bool.or_true, Bool.true_or, Bool.false_or, vcqOp, vcOp, isRd, RO.isGh, skip_mk, skipL, ev, evL, gvL, scL, look, updL, put_mk, put_mk0, keep_mk, keepL, rowE, rowD, bndN, binV, binC, unV, GV.getT, GV.fld, GV.sz, GV.same, GV.setT, Value.oneCell', cond_true, cond_false, Nat.reduceEqDiff, Nat.reduceAdd, Nat.reduceMul, Nat.reduceSub, Nat.reduceBEq, Nat.reduceLeDiff, ↓reduceIte, reduceCtorEq, List.nil_append, List.cons_append, List.append_nil, Nat.zero_add, Nat.add_zero, Bool.and_true, Bool.true_and, Bool.not_true, Bool.not_false, BEq.rfl, decide_true, decide_false, true_and, and_true, initF, initP, List.map_cons, List.map_nil, Option.map_some, szAll, List.length_cons, List.length_nil, finW_r, finW_n, resL, resOne, Option.bind_some, true_imp_iff, false_imp_iff, Bool.true_eq_false, Bool.false_eq_true, Int.toNat_natCast, Int.reduceToNat, Int.reduceLE, Int.reduceLT, Int.reduceAdd, Int.reduceSub, Int.reduceEq, decide_eq_true_eq, decide_eq_false_iff_not, kill, SV.mentions, ne_eq, not_false_eq_true, not_true_eq_false, List.drop_zero, List.take_succ_cons, List.take_zero, dOk, ↓br_tt, ↓br_ff, ↓br_tf, ↓br_ft, br_t, br_f, Bool.bne_false, Bool.bne_true, GV.bldT, GV.bldC, same_int, getT_nil, setT_nil, getD_gi, List.length_map, fits_s, fits_c, fits_ar, arr_ar, get_nil, gPlace_sz, gPlace_fits, gPlace_isS, gPlace_same, gPlace_fld0, gPlace_get0, gPlace_set0, gPlace_fld1, gPlace_get1, gPlace_set1, gPlace_zero, getD_gPlace, gTreeNode_sz, gTreeNode_fits, gTreeNode_isS, gTreeNode_same, gTreeNode_fld0, gTreeNode_get0, gTreeNode_set0, gTreeNode_fld1, gTreeNode_get1, gTreeNode_set1, gTreeNode_fld2, gTreeNode_get2, gTreeNode_set2, gTreeNode_fld3, gTreeNode_get3, gTreeNode_set3, gTreeNode_zero, getD_gTreeNode, ptr, nptr_some, nptr_none]
    refine fin_g (rs := [gTreeNode zTreeNode, .s (.bool false)]) rfl ⟨rfl, fun x => trivial⟩
  | some x =>
    simp (maxSteps := 2000000) only [vc_skip, vc_ret, vc_exit, vc_seq, vc_block, vc_scope, scopeQ_n, scopeQ_r, scopeQ_e, vc_rg, vc_rgq, vc_rga, vc_ite, thenQ_n, thenQ_r, thenQ_e, blockQ_n, blockQ_r, blockQ_e, kKeep_eq, loopQ_r, loopQ_e, loopQ_n, finQ_r, finQ_n, segs_nil, segs_n, segs_g, ops_nil, ops_cons, qsegs_nil, qsegs_n, qsegs_g, qops_nil, qops_cons, ot_done, ot_op, ot_or, List.contains_cons, List.contains_nil, Bool.or_false, Bool.or_true, Bool.true_or, Bool.false_or, vcqOp, vcOp, isRd, RO.isGh, skip_mk, skipL, ev, evL, gvL, scL, look, updL, put_mk, put_mk0, keep_mk, keepL, rowE, rowD, bndN, binV, binC, unV, GV.getT, GV.fld, GV.sz, GV.same, GV.setT, Value.oneCell', cond_true, cond_false, Nat.reduceEqDiff, Nat.reduceAdd, Nat.reduceMul, Nat.reduceSub, Nat.reduceBEq, Nat.reduceLeDiff, ↓reduceIte, reduceCtorEq, List.nil_append, List.cons_append, List.append_nil, Nat.zero_add, Nat.add_zero, Bool.and_true, Bool.true_and, Bool.not_true, Bool.not_false, BEq.rfl, decide_true, decide_false, true_and, and_true, initF, initP, List.map_cons, List.map_nil, Option.map_some, szAll, List.length_cons, List.length_nil, finW_r, finW_n, resL, resOne, Option.bind_some, true_imp_iff, false_imp_iff, Bool.true_eq_false, Bool.false_eq_true, Int.toNat_natCast, Int.reduceToNat, Int.reduceLE, Int.reduceLT, Int.reduceAdd, Int.reduceSub, Int.reduceEq, decide_eq_true_eq, decide_eq_false_iff_not, kill, SV.mentions, ne_eq, not_false_eq_true, not_true_eq_false, List.drop_zero, List.take_succ_cons, List.take_zero, dOk, ↓br_tt, ↓br_ff, ↓br_tf, ↓br_ft, br_t, br_f, Bool.bne_false, Bool.bne_true, GV.bldT, GV.bldC, same_int, getT_nil, setT_nil, getD_gi, List.length_map, fits_s, fits_c, fits_ar, arr_ar, get_nil, gPlace_sz, gPlace_fits, gPlace_isS, gPlace_same, gPlace_fld0, gPlace_get0, gPlace_set0, gPlace_fld1, gPlace_get1, gPlace_set1, gPlace_zero, getD_gPlace, gTreeNode_sz, gTreeNode_fits, gTreeNode_isS, gTreeNode_same, gTreeNode_fld0, gTreeNode_get0, gTreeNode_set0, gTreeNode_fld1, gTreeNode_get1, gTreeNode_set1, gTreeNode_fld2, gTreeNode_get2, gTreeNode_set2, gTreeNode_fld3, gTreeNode_get3, gTreeNode_set3, gTreeNode_zero, getD_gTreeNode, ptr, nptr_some, nptr_none]
    refine eq_of (eqNode _) ?_
    simp (maxSteps := 2000000) only [vc_skip, vc_ret, vc_exit, vc_seq, vc_block, vc_scope, scopeQ_n, scopeQ_r, scopeQ_e, vc_rg, vc_rgq, vc_rga, vc_ite, thenQ_n, thenQ_r, thenQ_e, blockQ_n, blockQ_r, blockQ_e, kKeep_eq, loopQ_r, loopQ_e, loopQ_n, finQ_r, finQ_n, segs_nil, segs_n, segs_g, ops_nil, ops_cons, qsegs_nil, qsegs_n, qsegs_g, qops_nil, qops_cons, ot_done, ot_op, ot_or, List.contains_cons, List.contains_nil, Bool.or_false, Bool.or_true, Bool.true_or, Bool.false_or, vcqOp, vcOp, isRd, RO.isGh, skip_mk, skipL, ev, evL, gvL, scL, look, updL, put_mk, put_mk0, keep_mk, keepL, rowE, rowD, bndN, binV, binC, unV, GV.getT, GV.fld, GV.sz, GV.same, GV.setT, Value.oneCell', cond_true, cond_false, Nat.reduceEqDiff, Nat.reduceAdd, Nat.reduceMul, Nat.reduceSub, Nat.reduceBEq, Nat.reduceLeDiff, ↓reduceIte, reduceCtorEq, List.nil_append, List.cons_append, List.append_nil, Nat.zero_add, Nat.add_zero, Bool.and_true, Bool.true_and, Bool.not_true, Bool.not_false, BEq.rfl, decide_true, decide_false, true_and, and_true, initF, initP, List.map_cons, List.map_nil, Option.map_some, szAll, List.length_cons, List.length_nil, finW_r, finW_n, resL, resOne, Option.bind_some, true_imp_iff, false_imp_iff, Bool.true_eq_false, Bool.false_eq_true, Int.toNat_natCast, Int.reduceToNat, Int.reduceLE, Int.reduceLT, Int.reduceAdd, Int.reduceSub, Int.reduceEq, decide_eq_true_eq, decide_eq_false_iff_not, kill, SV.mentions, ne_eq, not_false_eq_true, not_true_eq_false, List.drop_zero, List.take_succ_cons, List.take_zero, dOk, ↓br_tt, ↓br_ff, ↓br_tf, ↓br_ft, br_t, br_f, Bool.bne_false, Bool.bne_true, GV.bldT, GV.bldC, same_int, getT_nil, setT_nil, getD_gi, List.length_map, fits_s, fits_c, fits_ar, arr_ar, get_nil, gPlace_sz, gPlace_fits, gPlace_isS, gPlace_same, gPlace_fld0, gPlace_get0, gPlace_set0, gPlace_fld1, gPlace_get1, gPlace_set1, gPlace_zero, getD_gPlace, gTreeNode_sz, gTreeNode_fits, gTreeNode_isS, gTreeNode_same, gTreeNode_fld0, gTreeNode_get0, gTreeNode_set0, gTreeNode_fld1, gTreeNode_get1, gTreeNode_set1, gTreeNode_fld2, gTreeNode_get2, gTreeNode_set2, gTreeNode_fld3, gTreeNode_get3, gTreeNode_set3, gTreeNode_zero, getD_gTreeNode, ptr, nptr_some, nptr_none]
    refine call_ownm rfl rfl (Q := fun rs m' => ∃ v, rs = [gTreeNode ⟨n, x.parent, x.name, v⟩] ∧ SlO m' v 55 2 ((attrsOf x).map gAttr)) (fun w' vs hv hw _ _ => ?_) fun rs m1 _ hq _ => ?_
    · obtain ⟨vs, rfl, _, hv⟩ := argsV_g hv
      obtain ⟨vs, rfl, _, hv⟩ := argsV_g hv
      obtain rfl := argsV_nil hv
      exact told_spec w' u (fun b o h => hw b o (by rw [u0_no]; exact hu b o h)) L T hT n x hx (hsm x hx)
    obtain ⟨v, rfl, hv⟩ := hq
    simp (maxSteps := 2000000) only [retS, uni_no_r, vc_skip, vc_ret, vc_exit, vc_seq, vc_block, vc_scope, scopeQ_n, scopeQ_r, scopeQ_e, vc_rg, vc_rgq, vc_rga, vc_ite, thenQ_n, thenQ_r, thenQ_e, blockQ_n, blockQ_r, blockQ_e, kKeep_eq, loopQ_r, loopQ_e, loopQ_n, finQ_r, finQ_n, segs_nil, segs_n, segs_g, ops_nil, ops_cons, qsegs_nil, qsegs_n, qsegs_g, qops_nil, qops_cons, ot_done, ot_op, ot_or, List.contains_cons, List.contains_nil, Bool.or_false, Bool.or_true, Bool.true_or, Bool.false_or, vcqOp, vcOp, isRd, RO.isGh, skip_mk, skipL, ev, evL, gvL, scL, look, updL, put_mk, put_mk0, keep_mk, keepL, rowE, rowD, bndN, binV, binC, unV, GV.getT, GV.fld, GV.sz, GV.same, GV.setT, Value.oneCell', cond_true, cond_false, Nat.reduceEqDiff, Nat.reduceAdd, Nat.reduceMul, Nat.reduceSub, Nat.reduceBEq, Nat.reduceLeDiff, ↓reduceIte, reduceCtorEq, List.nil_append, List.cons_append, List.append_nil, Nat.zero_add, Nat.add_zero, Bool.and_true, Bool.true_and, Bool.not_true, Bool.not_false, BEq.rfl, decide_true, decide_false, true_and, and_true, initF, initP, List.map_cons, List.map_nil, Option.map_some, szAll, List.length_cons, List.length_nil, finW_r, finW_n, resL, resOne, Option.bind_some, true_imp_iff, false_imp_iff, Bool.true_eq_false, Bool.false_eq_true, Int.toNat_natCast, Int.reduceToNat, Int.reduceLE, Int.reduceLT, Int.reduceAdd, Int.reduceSub, Int.reduceEq, decide_eq_true_eq, decide_eq_false_iff_not, kill, SV.mentions, ne_eq, not_false_eq_true, not_true_eq_false, List.drop_zero, List.take_succ_cons, List.take_zero, dOk, ↓br_tt, ↓br_ff, ↓br_tf, ↓br_ft, br_t, br_f, Bool.bne_false, Bool.bne_true, GV.bldT, GV.bldC, same_int, getT_nil, setT_nil, getD_gi, List.length_map, fits_s, fits_c, fits_ar, arr_ar, get_nil, gPlace_sz, gPlace_fits, gPlace_isS, gPlace_same, gPlace_fld0, gPlace_get0, gPlace_set0, gPlace_fld1, gPlace_get1, gPlace_set1, gPlace_zero, getD_gPlace, gTreeNode_sz, gTreeNode_fits, gTreeNode_isS, gTreeNode_same, gTreeNode_fld0, gTreeNode_get0, gTreeNode_set0, gTreeNode_fld1, gTreeNode_get1, gTreeNode_set1, gTreeNode_fld2, gTreeNode_get2, gTreeNode_set2, gTreeNode_fld3, gTreeNode_get3, gTreeNode_set3, gTreeNode_zero, getD_gTreeNode, ptr, nptr_some, nptr_none]
    refine fin_m (rs := [gTreeNode ⟨n, x.parent, x.name, v⟩, .s (.bool true)]) _ rfl (fun _ _ h => h) fun y hy => ?_
    cases hy
    exact ⟨v, rfl, hv⟩
theorem BelowX_spec (hu : u.le w) (hT : TM u L T) (n a : Int) (hl : T.nodes.length < 9223372036854775800) : Spec Tryz.prog f_tree_Tree_Below [ptr (L .t), .int .i64 n, .int .i64 a] PH.no w fun rs _ => rs = [.s (.bool (T.has n && T.has a && T.below n a))] := by
  refine spec_val k_tree_Tree_Below (Qf := fun rs => rs = [.s (.bool (T.has n && T.has a && T.below n a))]) [.g (.s (ptr (L .t))), .g (.s (.int .i64 n)), .g (.s (.int .i64 a))] (by simp) (by simp [AV.ok, GV.ok, Value.oneCell', ptr]) ?_
  have hk : ∀ {l : List PH}, KN (⟨Tryz.prog, 34, w, PH.no⟩ : Ctx).u0 l u := kn_u hu
  simp (maxSteps := 2000000) only [c_tree_Tree_Below, vc_skip, vc_ret, vc_exit, vc_seq, vc_block, vc_scope, scopeQ_n, scopeQ_r, scopeQ_e, vc_rg, vc_rgq, vc_rga, vc_ite, thenQ_n, thenQ_r, thenQ_e, blockQ_n, blockQ_r, blockQ_e, kKeep_eq, loopQ_r, loopQ_e, loopQ_n, finQ_r, finQ_n, segs_nil, segs_n, segs_g, ops_nil, ops_cons, qsegs_nil, qsegs_n, qsegs_g, qops_nil, qops_cons, ot_done, ot_op, ot_or, List.contains_cons, List.contains_nil, Bool.or_false, Bool.or_true, Bool.true_or, Bool.false_or, vcqOp, vcOp, isRd, RO.isGh, skip_mk, skipL, ev, evL, gvL, scL, look, updL, put_mk, put_mk0, keep_mk, keepL, rowE, rowD, bndN, binV, binC, unV, GV.getT, GV.fld, GV.sz, GV.same, GV.setT, Value.oneCell', cond_true, cond_false, Nat.reduceEqDiff, Nat.reduceAdd, Nat.reduceMul, Nat.reduceSub, Nat.reduceBEq, Nat.reduceLeDiff, ↓reduceIte, reduceCtorEq, List.nil_append, List.cons_append, List.append_nil, Nat.zero_add, Nat.add_zero, Bool.and_true, Bool.true_and, Bool.not_true, Bool.not_false, BEq.rfl, decide_true, decide_false, true_and, and_true, initF, initP, List.map_cons, List.map_nil, Option.map_some, szAll, List.length_cons, List.length_nil, finW_r, finW_n, resL, resOne, Option.bind_some, true_imp_iff, false_imp_iff, Bool.true_eq_false, Bool.false_eq_true, Int.toNat_natCast, Int.reduceToNat, Int.reduceLE, Int.reduceLT, Int.reduceAdd, Int.reduceSub, Int.reduceEq, decide_eq_true_eq, decide_eq_false_iff_not, kill, SV.mentions, ne_eq, not_false_eq_true, not_true_eq_false, List.drop_zero, List.take_succ_cons, List.take_zero, dOk, ↓br_tt, ↓br_ff, ↓br_tf, ↓br_ft, br_t, br_f, Bool.bne_false, Bool.bne_true, GV.bldT, GV.bldC, same_int, getT_nil, setT_nil, getD_gi, List.length_map, fits_s, fits_c, fits_ar, arr_ar, get_nil, gPlace_sz, gPlace_fits, gPlace_isS, gPlace_same, gPlace_fld0, gPlace_get0, gPlace_set0, gPlace_fld1, gPlace_get1, gPlace_set1, gPlace_zero, getD_gPlace, gTreeNode_sz, gTreeNode_fits, gTreeNode_isS, gTreeNode_same, gTreeNode_fld0, gTreeNode_get0, gTreeNode_set0, gTreeNode_fld1, gTreeNode_get1, gTreeNode_set1, gTreeNode_fld2, gTreeNode_get2, gTreeNode_set2, gTreeNode_fld3, gTreeNode_get3, gTreeNode_set3, gTreeNode_zero, getD_gTreeNode, ptr, nptr_some, nptr_none]
  refine call_is _ [.s (.bool false)] rfl rfl (fun w' vs hv hw => ?_) ?_
  · obtain ⟨vs, rfl, _, hv⟩ := argsV_g hv
    obtain rfl := argsV_nil hv
    intro _
    exact none_spec (fun b o h => hw b o (by rw [u0_no]; exact hu b o h)) hT
  simp (maxSteps := 2000000) only [retS, vc_skip, vc_ret, vc_exit, vc_seq, vc_block, vc_scope, scopeQ_n, scopeQ_r, scopeQ_e, vc_rg, vc_rgq, vc_rga, vc_ite, thenQ_n, thenQ_r, thenQ_e, blockQ_n, blockQ_r, blockQ_e, kKeep_eq, loopQ_r, loopQ_e, loopQ_n, finQ_r, finQ_n, segs_nil, segs_n, segs_g, ops_nil, ops_cons, qsegs_nil, qsegs_n, qsegs_g, qops_nil, qops_cons, ot_done, ot_op, ot_or, List.contains_cons, List.contains_nil, Bool.or_false, Bool.or_true, Bool.true_or, Bool.false_or, vcqOp, vcOp, isRd, RO.isGh, skip_mk, skipL, ev, evL, gvL, scL, look, updL, put_mk, put_mk0, keep_mk, keepL, rowE, rowD, bndN, binV, binC, unV, GV.getT, GV.fld, GV.sz, GV.same, GV.setT, Value.oneCell', cond_true, cond_false, Nat.reduceEqDiff, Nat.reduceAdd, Nat.reduceMul, Nat.reduceSub, Nat.reduceBEq, Nat.reduceLeDiff, ↓reduceIte, reduceCtorEq, List.nil_append, List.cons_append, List.append_nil, Nat.zero_add, Nat.add_zero, Bool.and_true, Bool.true_and, Bool.not_true, Bool.not_false, BEq.rfl, decide_true, decide_false, true_and, and_true, initF, initP, List.map_cons, List.map_nil, Option.map_some, szAll, List.length_cons, List.length_nil, finW_r, finW_n, resL, resOne, Option.bind_some, true_imp_iff, false_imp_iff, Bool.true_eq_false, Bool.false_eq_true, Int.toNat_natCast, Int.reduceToNat, Int.reduceLE, Int.reduceLT, Int.reduceAdd, Int.reduceSub, Int.reduceEq, decide_eq_true_eq, decide_eq_false_iff_not, kill, SV.mentions, ne_eq, not_false_eq_true, not_true_eq_false, List.drop_zero, List.take_succ_cons, List.take_zero, dOk, ↓br_tt, ↓br_ff, ↓br_tf, ↓br_ft, br_t, br_f, Bool.bne_false, Bool.bne_true, GV.bldT, GV.bldC, same_int, getT_nil, setT_nil, getD_gi, List.length_map, fits_s, fits_c, fits_ar, arr_ar, get_nil, gPlace_sz, gPlace_fits, gPlace_isS, gPlace_same, gPlace_fld0, gPlace_get0, gPlace_set0, gPlace_fld1, gPlace_get1, gPlace_set1, gPlace_zero, getD_gPlace, gTreeNode_sz, gTreeNode_fits, gTreeNode_isS, gTreeNode_same, gTreeNode_fld0, gTreeNode_get0, gTreeNode_set0, gTreeNode_fld1, gTreeNode_get1, gTreeNode_set1, gTreeNode_fld2, gTreeNode_get2, gTreeNode_set2, gTreeNode_fld3, gTreeNode_get3, gTreeNode_set3, gTreeNode_zero, getD_gTreeNode, ptr, nptr_some, nptr_none]
  refine ld_of _ (hT.s_map hk) rfl ?_
  simp (maxSteps := 2000000) only [vc_skip, vc_ret, vc_exit, vc_seq, vc_block, vc_scope, scopeQ_n, scopeQ_r, scopeQ_e, vc_rg, vc_rgq, vc_rga, vc_ite, thenQ_n, thenQ_r, thenQ_e, blockQ_n, blockQ_r, blockQ_e, kKeep_eq, loopQ_r, loopQ_e, loopQ_n, finQ_r, finQ_n, segs_nil, segs_n, segs_g, ops_nil, ops_cons, qsegs_nil, qsegs_n, qsegs_g, qops_nil, qops_cons, ot_done, ot_op, ot_or, List.contains_cons, List.contains_nil, Bool.or_false, Bool.or_true, Bool.true_or, Bool.false_or, vcqOp, vcOp, isRd, RO.isGh, skip_mk, skipL, ev, evL, gvL, scL, look, updL, put_mk, put_mk0, keep_mk, keepL, rowE, rowD, bndN, binV, binC, unV, GV.getT, GV.fld, GV.sz, GV.same, GV.setT, Value.oneCell', cond_true, cond_false, Nat.reduceEqDiff, Nat.reduceAdd, Nat.reduceMul, Nat.reduceSub, Nat.reduceBEq, Nat.reduceLeDiff, ↓reduceIte, reduceCtorEq, List.nil_append, List.cons_append, List.append_nil, Nat.zero_add, Nat.add_zero, Bool.and_true, Bool.true_and, Bool.not_true, Bool.not_false, BEq.rfl, decide_true, decide_false, true_and, and_true, initF, initP, List.map_cons, List.map_nil, Option.map_some, szAll, List.length_cons, List.length_nil, finW_r, finW_n, resL, resOne, Option.bind_some, true_imp_iff, false_imp_iff, Bool.true_eq_false, Bool.false_eq_true, Int.toNat_natCast, Int.reduceToNat, Int.reduceLE, Int.reduceLT, Int.reduceAdd, Int.reduceSub, Int.reduceEq, decide_eq_true_eq, decide_eq_false_iff_not, kill, SV.mentions, ne_eq, not_false_eq_true, not_true_eq_false, List.drop_zero, List.take_succ_cons, List.take_zero, dOk, ↓br_tt, ↓br_ff, ↓br_tf, ↓br_ft, br_t, br_f, Bool.bne_false, Bool.bne_true, GV.bldT, GV.bldC, same_int, getT_nil, setT_nil, getD_gi, List.length_map, fits_s, fits_c, fits_ar, arr_ar, get_nil, gPlace_sz, gPlace_fits, gPlace_isS, gPlace_same, gPlace_fld0, gPlace_get0, gPlace_set0, gPlace_fld1, gPlace_get1, gPlace_set1, gPlace_zero, getD_gPlace, gTreeNode_sz, gTreeNode_fits, gTreeNode_isS, gTreeNode_same, gTreeNode_fld0, gTreeNode_get0, gTreeNode_set0, gTreeNode_fld1, gTreeNode_get1, gTreeNode_set1, gTreeNode_fld2, gTreeNode_get2, gTreeNode_set2, gTreeNode_fld3, gTreeNode_get3, gTreeNode_set3, gTreeNode_zero, getD_gTreeNode, ptr, nptr_some, nptr_none]
  refine hT.lk hk n ?_
  cases hx : T.get n with
  | none =>
    simp (maxSteps := 2000000) only [vc_skip, vc_ret, vc_exit, vc_seq, vc_block, vc_scope, scopeQ_n, scopeQ_r, scopeQ_e, vc_rg, vc_rgq, vc_rga, vc_ite, thenQ_n, thenQ_r, thenQ_e, blockQ_n, blockQ_r, blockQ_e, kKeep_eq, loopQ_r, loopQ_e, loopQ_n, finQ_r, finQ_n, segs_nil, segs_n, segs_g, ops_nil, ops_cons, qsegs_nil, qsegs_n, qsegs_g, qops_nil, qops_cons, ot_done, ot_op, ot_or, List.contains_cons, List.contains_nil, Bool.or_false, Bool.or_true, Bool.true_or, Bool.false_or, vcqOp, vcOp, isRd, RO.isGh, skip_mk, skipL, ev, evL, gvL, scL, look, updL, put_mk, put_mk0, keep_mk, keepL, rowE, rowD, bndN, binV, binC, unV, GV.getT, GV.fld, GV.sz, GV.same, GV.setT, Value.oneCell', cond_true, cond_false, Nat.reduceEqDiff, Nat.reduceAdd, Nat.reduceMul, Nat.reduceSub, Nat.reduceBEq, Nat.reduceLeDiff, ↓reduceIte, reduceCtorEq, List.nil_append, List.cons_append, List.append_nil, Nat.zero_add, Nat.add_zero, Bool.and_true, Bool.true_and, Bool.not_true, Bool.not_false, BEq.rfl, decide_true, decide_false, true_and, and_true, initF, initP, List.map_cons, List.map_nil, Option.map_some, szAll, List.length_cons, List.length_nil, finW_r, finW_n, resL, resOne, Option.bind_some, true_imp_iff, false_imp_iff, Bool.true_eq_false, Bool.false_eq_true, Int.toNat_natCast, Int.reduceToNat, Int.reduceLE, Int.reduceLT, Int.reduceAdd, Int.reduceSub, Int.reduceEq, decide_eq_true_eq, decide_eq_false_iff_not, kill, SV.mentions, ne_eq, not_false_eq_true, not_true_eq_false, List.drop_zero, List.take_succ_cons, List.take_zero, dOk, ↓br_tt, ↓br_ff, ↓br_tf, ↓br_ft, br_t, br_f, Bool.bne_false, Bool.bne_true, GV.bldT, GV.bldC, same_int, getT_nil, setT_nil, getD_gi, List.length_map, fits_s, fits_c, fits_ar, arr_ar, get_nil, gPlace_sz, gPlace_fits, gPlace_isS, gPlace_same, gPlace_fld0, gPlace_get0, gPlace_set0, gPlace_fld1, gPlace_get1, gPlace_set1, gPlace_zero, getD_gPlace, gTreeNode_sz, gTreeNode_fits, gTreeNode_isS, gTreeNode_same, gTreeNode_fld0, gTreeNode_get0, gTreeNode_set0, gTreeNode_fld1, gTreeNode_get1, gTreeNode_set1, gTreeNode_fld2, gTreeNode_get2, gTreeNode_set2, gTreeNode_fld3, gTreeNode_get3, gTreeNode_set3, gTreeNode_zero, getD_gTreeNode, ptr, nptr_some, nptr_none]
    refine eq_of eqNode0 ?_
    simp (maxSteps := 2000000) only [vc_skip, vc_ret, vc_exit, vc_seq, vc_block, vc_scope, scopeQ_n, scopeQ_r, scopeQ_e, vc_rg, vc_rgq, vc_rga, vc_ite, thenQ_n, thenQ_r, thenQ_e, blockQ_n, blockQ_r, blockQ_e, kKeep_eq, loopQ_r, loopQ_e, loopQ_n, finQ_r, finQ_n, segs_nil, segs_n, segs_g, ops_nil, ops_cons, qsegs_nil, qsegs_n, qsegs_g, qops_nil, qops_cons, ot_done, ot_op, ot_or, List.contains_cons, List.contains_nil, Bool.or_false, Bool.or_true, Bool.true_or, Bool.false_or, vcqOp, vcOp, isRd, RO.isGh, skip_mk, skipL, ev, evL, gvL, scL, look, updL, put_mk, put_mk0, keep_mk, keepL, rowE, rowD, bndN, binV, binC, unV, GV.getT, GV.fld, GV.sz, GV.same, GV.setT, Value.oneCell', cond_true, cond_false, Nat.reduceEqDiff, Nat.reduceAdd, Nat.reduceMul, Nat.reduceSub, Nat.reduceBEq, Nat.reduceLeDiff, ↓reduceIte, reduceCtorEq, List.nil_append, List.cons_append, List.append_nil, Nat.zero_add, Nat.add_zero, Bool.and_true, Bool.true_and, Bool.not_true, Bool.not_false, BEq.rfl, decide_true, decide_false, true_and, and_true, initF, initP, List.map_cons, List.map_nil, Option.map_some, szAll, List.length_cons, List.length_nil, finW_r, finW_n, resL, resOne, Option.bind_some, true_imp_iff, false_imp_iff, Bool.true_eq_false, Bool.false_eq_true, Int.toNat_natCast, Int.reduceToNat, Int.reduceLE, Int.reduceLT, Int.reduceAdd, Int.reduceSub, Int.reduceEq, decide_eq_true_eq, decide_eq_false_iff_not, kill, SV.mentions, ne_eq, not_false_eq_true, not_true_eq_false, List.drop_zero, List.take_succ_cons, List.take_zero, dOk, ↓br_tt, ↓br_ff, ↓br_tf, ↓br_ft, br_t, br_f, Bool.bne_false, Bool.bne_true, GV.bldT, GV.bldC, same_int, getT_nil, setT_nil, getD_gi, List.length_map, fits_s, fits_c, fits_ar, arr_ar, get_nil, gPlace_sz, gPlace_fits, gPlace_isS, gPlace_same, gPlace_fld0, gPlace_get0, gPlace_set0, gPlace_fld1, gPlace_get1, gPlace_set1, gPlace_zero, getD_gPlace, gTreeNode_sz, gTreeNode_fits, gTreeNode_isS, gTreeNode_same, gTreeNode_fld0, gTreeNode_get0, gTreeNode_set0, gTreeNode_fld1, gTreeNode_get1, gTreeNode_set1, gTreeNode_fld2, gTreeNode_get2, gTreeNode_set2, gTreeNode_fld3, gTreeNode_get3, gTreeNode_set3, gTreeNode_zero, getD_gTreeNode, ptr, nptr_some, nptr_none]
    rw [show T.has n = false by rw [PT.has, hx]; rfl]; rfl
  | some x =>
    simp (maxSteps := 2000000) only [vc_skip, vc_ret, vc_exit, vc_seq, vc_block, vc_scope, scopeQ_n, scopeQ_r, scopeQ_e, vc_rg, vc_rgq, vc_rga, vc_ite, thenQ_n, thenQ_r, thenQ_e, blockQ_n, blockQ_r, blockQ_e, kKeep_eq, loopQ_r, loopQ_e, loopQ_n, finQ_r, finQ_n, segs_nil, segs_n, segs_g, ops_nil, ops_cons, qsegs_nil, qsegs_n, qsegs_g, qops_nil, qops_cons, ot_done, ot_op, ot_or, List.contains_cons, List.contains_nil, Bool.or_false, Bool.or_true, Bool.true_or, Bool.false_or, vcqOp, vcOp, isRd, RO.isGh, skip_mk, skipL, ev, evL, gvL, scL, look, updL, put_mk, put_mk0, keep_mk, keepL, rowE, rowD, bndN, binV, binC, unV, GV.getT, GV.fld, GV.sz, GV.same, GV.setT, Value.oneCell', cond_true, cond_false, Nat.reduceEqDiff, Nat.reduceAdd, Nat.reduceMul, Nat.reduceSub, Nat.reduceBEq, Nat.reduceLeDiff, ↓reduceIte, reduceCtorEq, List.nil_append, List.cons_append, List.append_nil, Nat.zero_add, Nat.add_zero, Bool.and_true, Bool.true_and, Bool.not_true, Bool.not_false, BEq.rfl, decide_true, decide_false, true_and, and_true, initF, initP, List.map_cons, List.map_nil, Option.map_some, szAll, List.length_cons, List.length_nil, finW_r, finW_n, resL, resOne, Option.bind_some, true_imp_iff, false_imp_iff, Bool.true_eq_false, Bool.false_eq_true, Int.toNat_natCast, Int.reduceToNat, Int.reduceLE, Int.reduceLT, Int.reduceAdd, Int.reduceSub, Int.reduceEq, decide_eq_true_eq, decide_eq_false_iff_not, kill, SV.mentions, ne_eq, not_false_eq_true, not_true_eq_false, List.drop_zero, List.take_succ_cons, List.take_zero, dOk, ↓br_tt, ↓br_ff, ↓br_tf, ↓br_ft, br_t, br_f, Bool.bne_false, Bool.bne_true, GV.bldT, GV.bldC, same_int, getT_nil, setT_nil, getD_gi, List.length_map, fits_s, fits_c, fits_ar, arr_ar, get_nil, gPlace_sz, gPlace_fits, gPlace_isS, gPlace_same, gPlace_fld0, gPlace_get0, gPlace_set0, gPlace_fld1, gPlace_get1, gPlace_set1, gPlace_zero, getD_gPlace, gTreeNode_sz, gTreeNode_fits, gTreeNode_isS, gTreeNode_same, gTreeNode_fld0, gTreeNode_get0, gTreeNode_set0, gTreeNode_fld1, gTreeNode_get1, gTreeNode_set1, gTreeNode_fld2, gTreeNode_get2, gTreeNode_set2, gTreeNode_fld3, gTreeNode_get3, gTreeNode_set3, gTreeNode_zero, getD_gTreeNode, ptr, nptr_some, nptr_none]
    refine eq_of (eqNode _) ?_
    simp (maxSteps := 2000000) only [vc_skip, vc_ret, vc_exit, vc_seq, vc_block, vc_scope, scopeQ_n, scopeQ_r, scopeQ_e, vc_rg, vc_rgq, vc_rga, vc_ite, thenQ_n, thenQ_r, thenQ_e, blockQ_n, blockQ_r, blockQ_e, kKeep_eq, loopQ_r, loopQ_e, loopQ_n, finQ_r, finQ_n, segs_nil, segs_n, segs_g, ops_nil, ops_cons, qsegs_nil, qsegs_n, qsegs_g, qops_nil, qops_cons, ot_done, ot_op, ot_or, List.contains_cons, List.contains_nil, Bool.or_false, Bool.or_true, Bool.true_or, Bool.false_or, vcqOp, vcOp, isRd, RO.isGh, skip_mk, skipL, ev, evL, gvL, scL, look, updL, put_mk, put_mk0, keep_mk, keepL, rowE, rowD, bndN, binV, binC, unV, GV.getT, GV.fld, GV.sz, GV.same, GV.setT, Value.oneCell', cond_true, cond_false, Nat.reduceEqDiff, Nat.reduceAdd, Nat.reduceMul, Nat.reduceSub, Nat.reduceBEq, Nat.reduceLeDiff, ↓reduceIte, reduceCtorEq, List.nil_append, List.cons_append, List.append_nil, Nat.zero_add, Nat.add_zero, Bool.and_true, Bool.true_and, Bool.not_true, Bool.not_false, BEq.rfl, decide_true, decide_false, true_and, and_true, initF, initP, List.map_cons, List.map_nil, Option.map_some, szAll, List.length_cons, List.length_nil, finW_r, finW_n, resL, resOne, Option.bind_some, true_imp_iff, false_imp_iff, Bool.true_eq_false, Bool.false_eq_true, Int.toNat_natCast, Int.reduceToNat, Int.reduceLE, Int.reduceLT, Int.reduceAdd, Int.reduceSub, Int.reduceEq, decide_eq_true_eq, decide_eq_false_iff_not, kill, SV.mentions, ne_eq, not_false_eq_true, not_true_eq_false, List.drop_zero, List.take_succ_cons, List.take_zero, dOk, ↓br_tt, ↓br_ff, ↓br_tf, ↓br_ft, br_t, br_f, Bool.bne_false, Bool.bne_true, GV.bldT, GV.bldC, same_int, getT_nil, setT_nil, getD_gi, List.length_map, fits_s, fits_c, fits_ar, arr_ar, get_nil, gPlace_sz, gPlace_fits, gPlace_isS, gPlace_same, gPlace_fld0, gPlace_get0, gPlace_set0, gPlace_fld1, gPlace_get1, gPlace_set1, gPlace_zero, getD_gPlace, gTreeNode_sz, gTreeNode_fits, gTreeNode_isS, gTreeNode_same, gTreeNode_fld0, gTreeNode_get0, gTreeNode_set0, gTreeNode_fld1, gTreeNode_get1, gTreeNode_set1, gTreeNode_fld2, gTreeNode_get2, gTreeNode_set2, gTreeNode_fld3, gTreeNode_get3, gTreeNode_set3, gTreeNode_zero, getD_gTreeNode, ptr, nptr_some, nptr_none]
    refine ld_of _ (hT.s_map hk) rfl ?_
    simp (maxSteps := 2000000) only [vc_skip, vc_ret, vc_exit, vc_seq, vc_block, vc_scope, scopeQ_n, scopeQ_r, scopeQ_e, vc_rg, vc_rgq, vc_rga, vc_ite, thenQ_n, thenQ_r, thenQ_e, blockQ_n, blockQ_r, blockQ_e, kKeep_eq, loopQ_r, loopQ_e, loopQ_n, finQ_r, finQ_n, segs_nil, segs_n, segs_g, ops_nil, ops_cons, qsegs_nil, qsegs_n, qsegs_g, qops_nil, qops_cons, ot_done, ot_op, ot_or, List.contains_cons, List.contains_nil, Bool.or_false, Bool.or_true, Bool.true_or, Bool.false_or, vcqOp, vcOp, isRd, RO.isGh, skip_mk, skipL, ev, evL, gvL, scL, look, updL, put_mk, put_mk0, keep_mk, keepL, rowE, rowD, bndN, binV, binC, unV, GV.getT, GV.fld, GV.sz, GV.same, GV.setT, Value.oneCell', cond_true, cond_false, Nat.reduceEqDiff, Nat.reduceAdd, Nat.reduceMul, Nat.reduceSub, Nat.reduceBEq, Nat.reduceLeDiff, ↓reduceIte, reduceCtorEq, List.nil_append, List.cons_append, List.append_nil, Nat.zero_add, Nat.add_zero, Bool.and_true, Bool.true_and, Bool.not_true, Bool.not_false, BEq.rfl, decide_true, decide_false, true_and, and_true, initF, initP, List.map_cons, List.map_nil, Option.map_some, szAll, List.length_cons, List.length_nil, finW_r, finW_n, resL, resOne, Option.bind_some, true_imp_iff, false_imp_iff, Bool.true_eq_false, Bool.false_eq_true, Int.toNat_natCast, Int.reduceToNat, Int.reduceLE, Int.reduceLT, Int.reduceAdd, Int.reduceSub, Int.reduceEq, decide_eq_true_eq, decide_eq_false_iff_not, kill, SV.mentions, ne_eq, not_false_eq_true, not_true_eq_false, List.drop_zero, List.take_succ_cons, List.take_zero, dOk, ↓br_tt, ↓br_ff, ↓br_tf, ↓br_ft, br_t, br_f, Bool.bne_false, Bool.bne_true, GV.bldT, GV.bldC, same_int, getT_nil, setT_nil, getD_gi, List.length_map, fits_s, fits_c, fits_ar, arr_ar, get_nil, gPlace_sz, gPlace_fits, gPlace_isS, gPlace_same, gPlace_fld0, gPlace_get0, gPlace_set0, gPlace_fld1, gPlace_get1, gPlace_set1, gPlace_zero, getD_gPlace, gTreeNode_sz, gTreeNode_fits, gTreeNode_isS, gTreeNode_same, gTreeNode_fld0, gTreeNode_get0, gTreeNode_set0, gTreeNode_fld1, gTreeNode_get1, gTreeNode_set1, gTreeNode_fld2, gTreeNode_get2, gTreeNode_set2, gTreeNode_fld3, gTreeNode_get3, gTreeNode_set3, gTreeNode_zero, getD_gTreeNode, ptr, nptr_some, nptr_none]
    refine hT.lk hk a ?_
    cases hy : T.get a with
    | none =>
      simp (maxSteps := 2000000) only [vc_skip, vc_ret, vc_exit, vc_seq, vc_block, vc_scope, scopeQ_n, scopeQ_r, scopeQ_e, vc_rg, vc_rgq, vc_rga, vc_ite, thenQ_n, thenQ_r, thenQ_e, blockQ_n, blockQ_r, blockQ_e, kKeep_eq, loopQ_r, loopQ_e, loopQ_n, finQ_r, finQ_n, segs_nil, segs_n, segs_g, ops_nil, ops_cons, qsegs_nil, qsegs_n, qsegs_g, qops_nil, qops_cons, ot_done, ot_op, ot_or, List.contains_cons, List.contains_nil, Bool.or_false, Bool.or_true, Bool.true_or, Bool.false_or, vcqOp, vcOp, isRd, RO.isGh, skip_mk, skipL, ev, evL, gvL, scL, look, updL, put_mk, put_mk0, keep_mk, keepL, rowE, rowD, bndN, binV, binC, unV, GV.getT, GV.fld, GV.sz, GV.same, GV.setT, Value.oneCell', cond_true, cond_false, Nat.reduceEqDiff, Nat.reduceAdd, Nat.reduceMul, Nat.reduceSub, Nat.reduceBEq, Nat.reduceLeDiff, ↓reduceIte, reduceCtorEq, List.nil_append, List.cons_append, List.append_nil, Nat.zero_add, Nat.add_zero, Bool.and_true, Bool.true_and, Bool.not_true, Bool.not_false, BEq.rfl, decide_true, decide_false, true_and, and_true, initF, initP, List.map_cons, List.map_nil, Option.map_some, szAll, List.length_cons, List.length_nil, finW_r, finW_n, resL, resOne, Option.bind_some, true_imp_iff, false_imp_iff, Bool.true_eq_false, Bool.false_eq_true, Int.toNat_natCast, Int.reduceToNat, Int.reduceLE, Int.reduceLT, Int.reduceAdd, Int.reduceSub, Int.reduceEq, decide_eq_true_eq, decide_eq_false_iff_not, kill, SV.mentions, ne_eq, not_false_eq_true, not_true_eq_false, List.drop_zero, List.take_succ_cons, List.take_zero, dOk, ↓br_tt, ↓br_ff, ↓br_tf, ↓br_ft, br_t, br_f, Bool.bne_false, Bool.bne_true, GV.bldT, GV.bldC, same_int, getT_nil, setT_nil, getD_gi, List.length_map, fits_s, fits_c, fits_ar, arr_ar, get_nil, gPlace_sz, gPlace_fits, gPlace_isS, gPlace_same, gPlace_fld0, gPlace_get0, gPlace_set0, gPlace_fld1, gPlace_get1, gPlace_set1, gPlace_zero, getD_gPlace, gTreeNode_sz, gTreeNode_fits, gTreeNode_isS, gTreeNode_same, gTreeNode_fld0, gTreeNode_get0, gTreeNode_set0, gTreeNode_fld1, gTreeNode_get1, gTreeNode_set1, gTreeNode_fld2, gTreeNode_get2, gTreeNode_set2, gTreeNode_fld3, gTreeNode_get3, gTreeNode_set3, gTreeNode_zero, getD_gTreeNode, ptr, nptr_some, nptr_none]
      refine eq_of eqNode0 ?_
      simp (maxSteps := 2000000) only [vc_skip, vc_ret, vc_exit, vc_seq, vc_block, vc_scope, scopeQ_n, scopeQ_r, scopeQ_e, vc_rg, vc_rgq, vc_rga, vc_ite, thenQ_n, thenQ_r, thenQ_e, blockQ_n, blockQ_r, blockQ_e, kKeep_eq, loopQ_r, loopQ_e, loopQ_n, finQ_r, finQ_n, segs_nil, segs_n, segs_g, ops_nil, ops_cons, qsegs_nil, qsegs_n, qsegs_g, qops_nil, qops_cons, ot_done, ot_op, ot_or, List.contains_cons, List.contains_nil, Bool.or_false, Bool.or_true, Bool.true_or, Bool.false_or, vcqOp, vcOp, isRd, RO.isGh, skip_mk, skipL, ev, evL, gvL, scL, look, updL, put_mk, put_mk0, keep_mk, keepL, rowE, rowD, bndN, binV, binC, unV, GV.getT, GV.fld, GV.sz, GV.same, GV.setT, Value.oneCell', cond_true, cond_false, Nat.reduceEqDiff, Nat.reduceAdd, Nat.reduceMul, Nat.reduceSub, Nat.reduceBEq, Nat.reduceLeDiff, ↓reduceIte, reduceCtorEq, List.nil_append, List.cons_append, List.append_nil, Nat.zero_add, Nat.add_zero, Bool.and_true, Bool.true_and, Bool.not_true, Bool.not_false, BEq.rfl, decide_true, decide_false, true_and, and_true, initF, initP, List.map_cons, List.map_nil, Option.map_some, szAll, List.length_cons, List.length_nil, finW_r, finW_n, resL, resOne, Option.bind_some, true_imp_iff, false_imp_iff, Bool.true_eq_false, Bool.false_eq_true, Int.toNat_natCast, Int.reduceToNat, Int.reduceLE, Int.reduceLT, Int.reduceAdd, Int.reduceSub, Int.reduceEq, decide_eq_true_eq, decide_eq_false_iff_not, kill, SV.mentions, ne_eq, not_false_eq_true, not_true_eq_false, List.drop_zero, List.take_succ_cons, List.take_zero, dOk, ↓br_tt, ↓br_ff, ↓br_tf, ↓br_ft, br_t, br_f, Bool.bne_false, Bool.bne_true, GV.bldT, GV.bldC, same_int, getT_nil, setT_nil, getD_gi, List.length_map, fits_s, fits_c, fits_ar, arr_ar, get_nil, gPlace_sz, gPlace_fits, gPlace_isS, gPlace_same, gPlace_fld0, gPlace_get0, gPlace_set0, gPlace_fld1, gPlace_get1, gPlace_set1, gPlace_zero, getD_gPlace, gTreeNode_sz, gTreeNode_fits, gTreeNode_isS, gTreeNode_same, gTreeNode_fld0, gTreeNode_get0, gTreeNode_set0, gTreeNode_fld1, gTreeNode_get1, gTreeNode_set1, gTreeNode_fld2, gTreeNode_get2, gTreeNode_set2, gTreeNode_fld3, gTreeNode_get3, gTreeNode_set3, gTreeNode_zero, getD_gTreeNode, ptr, nptr_some, nptr_none]
      rw [show T.has a = false by rw [PT.has, hy]; rfl, Bool.and_false]; rfl
    | some y =>
      simp (maxSteps := 2000000) only [vc_skip, vc_ret, vc_exit, vc_seq, vc_block, vc_scope, scopeQ_n, scopeQ_r, scopeQ_e, vc_rg, vc_rgq, vc_rga, vc_ite, thenQ_n, thenQ_r, thenQ_e, blockQ_n, blockQ_r, blockQ_e, kKeep_eq, loopQ_r, loopQ_e, loopQ_n, finQ_r, finQ_n, segs_nil, segs_n, segs_g, ops_nil, ops_cons, qsegs_nil, qsegs_n, qsegs_g, qops_nil, qops_cons, ot_done, ot_op, ot_or, List.contains_cons, List.contains_nil, Bool.or_false, Bool.or_true, Bool.true_or, Bool.false_or, vcqOp, vcOp, isRd, RO.isGh, skip_mk, skipL, ev, evL, gvL, scL, look, updL, put_mk, put_mk0, keep_mk, keepL, rowE, rowD, bndN, binV, binC, unV, GV.getT, GV.fld, GV.sz, GV.same, GV.setT, Value.oneCell', cond_true, cond_false, Nat.reduceEqDiff, Nat.reduceAdd, Nat.reduceMul, Nat.reduceSub, Nat.reduceBEq, Nat.reduceLeDiff, ↓reduceIte, reduceCtorEq, List.nil_append, List.cons_append, List.append_nil, Nat.zero_add, Nat.add_zero, Bool.and_true, Bool.true_and, Bool.not_true, Bool.not_false, BEq.rfl, decide_true, decide_false, true_and, and_true, initF, initP, List.map_cons, List.map_nil, Option.map_some, szAll, List.length_cons, List.length_nil, finW_r, finW_n, resL, resOne, Option.bind_some, true_imp_iff, false_imp_iff, Bool.true_eq_false, Bool.false_eq_true, Int.toNat_natCast, Int.reduceToNat, Int.reduceLE, Int.reduceLT, Int.reduceAdd, Int.reduceSub, Int.reduceEq, decide_eq_true_eq, decide_eq_false_iff_not, kill, SV.mentions, ne_eq, not_false_eq_true, not_true_eq_false, List.drop_zero, List.take_succ_cons, List.take_zero, dOk, ↓br_tt, ↓br_ff, ↓br_tf, ↓br_ft, br_t, br_f, Bool.bne_false, Bool.bne_true, GV.bldT, GV.bldC, same_int, getT_nil, setT_nil, getD_gi, List.length_map, fits_s, fits_c, fits_ar, arr_ar, get_nil, gPlace_sz, gPlace_fits, gPlace_isS, gPlace_same, gPlace_fld0, gPlace_get0, gPlace_set0, gPlace_fld1, gPlace_get1, gPlace_set1, gPlace_zero, getD_gPlace, gTreeNode_sz, gTreeNode_fits, gTreeNode_isS, gTreeNode_same, gTreeNode_fld0, gTreeNode_get0, gTreeNode_set0, gTreeNode_fld1, gTreeNode_get1, gTreeNode_set1, gTreeNode_fld2, gTreeNode_get2, gTreeNode_set2, gTreeNode_fld3, gTreeNode_get3, gTreeNode_set3, gTreeNode_zero, getD_gTreeNode, ptr, nptr_some, nptr_none]
      refine eq_of (eqNode _) ?_
      simp (maxSteps := 2000000) only [vc_skip, vc_ret, vc_exit, vc_seq, vc_block, vc_scope, scopeQ_n, scopeQ_r, scopeQ_e, vc_rg, vc_rgq, vc_rga, vc_ite, thenQ_n, thenQ_r, thenQ_e, blockQ_n, blockQ_r, blockQ_e, kKeep_eq, loopQ_r, loopQ_e, loopQ_n, finQ_r, finQ_n, segs_nil, segs_n, segs_g, ops_nil, ops_cons, qsegs_nil, qsegs_n, qsegs_g, qops_nil, qops_cons, ot_done, ot_op, ot_or, List.contains_cons, List.contains_nil, Bool.or_false, Bool.or_true, Bool.true_or, Bool.false_or, vcqOp, vcOp, isRd, RO.isGh, skip_mk, skipL, ev, evL, gvL, scL, look, updL, put_mk, put_mk0, keep_mk, keepL, rowE, rowD, bndN, binV, binC, unV, GV.getT, GV.fld, GV.sz, GV.same, GV.setT, Value.oneCell', cond_true, cond_false, Nat.reduceEqDiff, Nat.reduceAdd, Nat.reduceMul, Nat.reduceSub, Nat.reduceBEq, Nat.reduceLeDiff, ↓reduceIte, reduceCtorEq, List.nil_append, List.cons_append, List.append_nil, Nat.zero_add, Nat.add_zero, Bool.and_true, Bool.true_and, Bool.not_true, Bool.not_false, BEq.rfl, decide_true, decide_false, true_and, and_true, initF, initP, List.map_cons, List.map_nil, Option.map_some, szAll, List.length_cons, List.length_nil, finW_r, finW_n, resL, resOne, Option.bind_some, true_imp_iff, false_imp_iff, Bool.true_eq_false, Bool.false_eq_true, Int.toNat_natCast, Int.reduceToNat, Int.reduceLE, Int.reduceLT, Int.reduceAdd, Int.reduceSub, Int.reduceEq, decide_eq_true_eq, decide_eq_false_iff_not, kill, SV.mentions, ne_eq, not_false_eq_true, not_true_eq_false, List.drop_zero, List.take_succ_cons, List.take_zero, dOk, ↓br_tt, ↓br_ff, ↓br_tf, ↓br_ft, br_t, br_f, Bool.bne_false, Bool.bne_true, GV.bldT, GV.bldC, same_int, getT_nil, setT_nil, getD_gi, List.length_map, fits_s, fits_c, fits_ar, arr_ar, get_nil, gPlace_sz, gPlace_fits, gPlace_isS, gPlace_same, gPlace_fld0, gPlace_get0, gPlace_set0, gPlace_fld1, gPlace_get1, gPlace_set1, gPlace_zero, getD_gPlace, gTreeNode_sz, gTreeNode_fits, gTreeNode_isS, gTreeNode_same, gTreeNode_fld0, gTreeNode_get0, gTreeNode_set0, gTreeNode_fld1, gTreeNode_get1, gTreeNode_set1, gTreeNode_fld2, gTreeNode_get2, gTreeNode_set2, gTreeNode_fld3, gTreeNode_get3, gTreeNode_set3, gTreeNode_zero, getD_gTreeNode, ptr, nptr_some, nptr_none]
      refine call_is _ [.s (.bool (T.below n a))] rfl rfl (fun w' vs hv hw => ?_) ?_
      · obtain ⟨vs, rfl, _, hv⟩ := argsV_g hv
        obtain ⟨vs, rfl, _, hv⟩ := argsV_g hv
        obtain ⟨vs, rfl, _, hv⟩ := argsV_g hv
        obtain rfl := argsV_nil hv
        intro _
        exact below_spec (fun b o h => hw b o (by rw [u0_no]; exact hu b o h)) hT n a hl
      simp (maxSteps := 2000000) only [retS, vc_skip, vc_ret, vc_exit, vc_seq, vc_block, vc_scope, scopeQ_n, scopeQ_r, scopeQ_e, vc_rg, vc_rgq, vc_rga, vc_ite, thenQ_n, thenQ_r, thenQ_e, blockQ_n, blockQ_r, blockQ_e, kKeep_eq, loopQ_r, loopQ_e, loopQ_n, finQ_r, finQ_n, segs_nil, segs_n, segs_g, ops_nil, ops_cons, qsegs_nil, qsegs_n, qsegs_g, qops_nil, qops_cons, ot_done, ot_op, ot_or, List.contains_cons, List.contains_nil, Bool.or_false, Bool.or_true, Bool.true_or, Bool.false_or, vcqOp, vcOp, isRd, RO.isGh, skip_mk, skipL, ev, evL, gvL, scL, look, updL, put_mk, put_mk0, keep_mk, keepL, rowE, rowD, bndN, binV, binC, unV, GV.getT, GV.fld, GV.sz, GV.same, GV.setT, Value.oneCell', cond_true, cond_false, Nat.reduceEqDiff, Nat.reduceAdd, Nat.reduceMul, Nat.reduceSub, Nat.reduceBEq, Nat.reduceLeDiff, ↓reduceIte, reduceCtorEq, List.nil_append, List.cons_append, List.append_nil, Nat.zero_add, Nat.add_zero, Bool.and_true, Bool.true_and, Bool.not_true, Bool.not_false, BEq.rfl, decide_true, decide_false, true_and, and_true, initF, initP, List.map_cons, List.map_nil, Option.map_some, szAll, List.length_cons, List.length_nil, finW_r, finW_n, resL, resOne, Option.bind_some, true_imp_iff, false_imp_iff, Bool.true_eq_false, Bool.false_eq_true, Int.toNat_natCast, Int.reduceToNat, Int.reduceLE, Int.reduceLT, Int.reduceAdd, Int.reduceSub, Int.reduceEq, decide_eq_true_eq, decide_eq_false_iff_not, kill, SV.mentions, ne_eq, not_false_eq_true, not_true_eq_false, List.drop_zero, List.take_succ_cons, List.take_zero, dOk, ↓br_tt, ↓br_ff, ↓br_tf, ↓br_ft, br_t, br_f, Bool.bne_false, Bool.bne_true, GV.bldT, GV.bldC, same_int, getT_nil, setT_nil, getD_gi, List.length_map, fits_s, fits_c, fits_ar, arr_ar, get_nil, gPlace_sz, gPlace_fits, gPlace_isS, gPlace_same, gPlace_fld0, gPlace_get0, gPlace_set0, gPlace_fld1, gPlace_get1, gPlace_set1, gPlace_zero, getD_gPlace, gTreeNode_sz, gTreeNode_fits, gTreeNode_isS, gTreeNode_same, gTreeNode_fld0, gTreeNode_get0, gTreeNode_set0, gTreeNode_fld1, gTreeNode_get1, gTreeNode_set1, gTreeNode_fld2, gTreeNode_get2, gTreeNode_set2, gTreeNode_fld3, gTreeNode_get3, gTreeNode_set3, gTreeNode_zero, getD_gTreeNode, ptr, nptr_some, nptr_none]
      rw [show T.has a = true by rw [PT.has, hy]; rfl, show T.has n = true by rw [PT.has, hx]; rfl]; rfl
end
end Go.Proofs.YtnoeabmpdjpfaaaGreatDoor.Vc

/- The code of some functions of the program, its types resolved: printed by a program of this claim. -/
set_option linter.unusedVariables false
set_option maxRecDepth 100000
namespace Go.Proofs.YtnoeabmpdjpfaaaGreatDoor.Vc
open Go Go.Proofs

abbrev f_path_Of : Nat := 9
def c_path_Of_L0 : Cd :=
 (.seq (.seq (.rg [⟨none, [(some 25, .mv (.t 1)), (some 26, .bin .neq (.t 25) (.c (.int .i64 1)))]⟩] [0, 1, 8, 26])
 (.ite (.t 26)
 .skip
 (.exit 0)))
 (.block 1 (.seq (.rg [⟨none, [(some 28, .mv (.t 0)), (some 29, .mv (.t 1)), (some 30, .call 12 [(.t 28), (.t 29)]), (some 27, .mv (.t 30)), (some 31, .ext (.t 27) 0), (some 32, .ext (.t 27) 1), (some 9, .new 32 (.c (.s (.int .i64 0)) (.c (.s (.int .i64 0)) (.c (.s (.string ⟨#[]⟩)) (.c (.s (.slice none 0 0)) .u))))), (none, .st (.t 9) (.t 31) 4), (some 10, .mv (.t 32))]⟩] [0, 8, 9])
 (.seq (.rg [⟨none, [(some 33, .fldA (.t 9) 2 2), (some 34, .ld (.t 33) 1 false), (some 35, .bldS 9 1 (.s (.string ⟨#[]⟩)) [(.t 34)]), (some 36, .mv (.t 8)), (none, .gh), (some 37, .app 9 1 16 (.s (.string ⟨#[]⟩)) (.t 35) (.t 36)), (none, .gh), (some 8, .mv (.t 37))]⟩] [0, 8, 9])
 (.seq (.rg [⟨none, [(some 38, .fldA (.t 9) 1 1), (some 39, .ld (.t 38) 1 false), (some 1, .mv (.t 39))]⟩] [0, 1, 8])
 (.seq (.rg [⟨none, [(some 40, .mv (.t 8)), (some 41, .len (.t 40)), (some 42, .bin .gtr (.t 41) (.c (.int .i64 64)))]⟩] [0, 1, 8, 42])
 (.ite (.t 42)
 (.seq (.rg [⟨none, [(some 4, .mv (.c (.string ⟨#[]⟩))), (some 5, .mv (.c (.int .i64 3)))]⟩] [4, 5])
 .ret)
 .skip)))))))
def c_path_Of : Cd :=
 (.seq (.rg [⟨none, [(some 4, .mv (.c (.string ⟨#[]⟩))), (some 5, .mv (.c (.int .i64 0)))]⟩] [0, 1])
 (.seq (.seq (.rg [⟨none, [(some 11, .mv (.t 0)), (some 12, .call 35 [(.t 11)]), (some 13, .bin .eql (.t 12) (.c (.int .i64 0)))]⟩] [0, 1, 13])
 (.ite (.t 13)
 (.seq (.rg [⟨none, [(some 4, .mv (.c (.string ⟨#[]⟩))), (some 5, .mv (.c (.int .i64 2)))]⟩] [4, 5])
 .ret)
 .skip))
 (.seq (.seq (.rg [⟨none, [(some 15, .mv (.t 0)), (some 16, .mv (.t 1)), (some 17, .call 12 [(.t 15), (.t 16)]), (some 14, .mv (.t 17)), (some 18, .ext (.t 14) 0), (some 19, .ext (.t 14) 1), (some 6, .new 32 (.c (.s (.int .i64 0)) (.c (.s (.int .i64 0)) (.c (.s (.string ⟨#[]⟩)) (.c (.s (.slice none 0 0)) .u))))), (none, .st (.t 6) (.t 18) 4), (some 7, .mv (.t 19))]⟩] [0, 1, 7])
 (.seq (.rg [⟨none, [(some 20, .mv (.t 7)), (some 21, .un .not (.t 20))]⟩] [0, 1, 21])
 (.ite (.t 21)
 (.seq (.rg [⟨none, [(some 4, .mv (.c (.string ⟨#[]⟩))), (some 5, .mv (.c (.int .i64 4)))]⟩] [4, 5])
 .ret)
 .skip)))
 (.seq (.seq (.rg [⟨none, [(some 22, .mv (.t 0)), (some 23, .mv (.t 1)), (some 24, .call 10 [(.t 22), (.t 23), (.c (.int .i64 2))])]⟩] [0, 1, 24])
 (.ite (.t 24)
 (.seq (.rg [⟨none, [(some 4, .mv (.c (.string ⟨#[]⟩))), (some 5, .mv (.c (.int .i64 201)))]⟩] [4, 5])
 .ret)
 .skip))
 (.seq (.rg [⟨none, [(some 8, .mv (.c (.slice none 0 0)))]⟩] [0, 1, 8])
 (.seq (.block 0 (.loop c_path_Of_L0))
 (.seq (.rg [⟨none, [(some 43, .mv (.t 8)), (some 44, .call 36 [(.t 43), (.c (.string ⟨#[47]⟩))]), (some 45, .bin .add (.c (.string ⟨#[47]⟩)) (.t 44)), (some 4, .mv (.t 45)), (some 5, .mv (.c (.int .i64 0)))]⟩] [4, 5])
 .ret)))))))
theorem k_path_Of : Ok Tryz.prog 9 c_path_Of 46 [] [.tmp 4, .tmp 5] := Ok.mk' Tryz.func9 (by kernel_rfl) (by kernel_rfl) (by kernel_rfl)

abbrev f_path_Resolve : Nat := 11
def c_path_Resolve_L0 : Cd :=
 (.seq (.rg [⟨none, [(some 27, .bin .lss (.t 26) (.t 25))]⟩] [0, 8, 24, 25, 26, 27])
 (.seq (.ite (.t 27)
 .skip
 (.exit 0))
 (.seq (.block 1 (.seq (.rg [⟨none, [(some 28, .idxS (.t 24) (.t 26) 1), (some 29, .ld (.t 28) 1 false), (some 10, .mv (.t 29))]⟩] [0, 8, 10, 24, 25, 26])
 (.seq (.rg [⟨none, [(some 31, .mv (.t 0)), (some 32, .mv (.t 8)), (some 33, .mv (.t 10)), (some 34, .call 13 [(.t 31), (.t 32), (.t 33)]), (some 30, .mv (.t 34)), (some 35, .ext (.t 30) 0), (some 36, .ext (.t 30) 1), (some 11, .mv (.t 35)), (some 12, .mv (.t 36))]⟩] [0, 11, 12, 24, 25, 26])
 (.seq (.seq (.rg [⟨none, [(some 37, .mv (.t 12)), (some 38, .un .not (.t 37))]⟩] [0, 11, 24, 25, 26, 38])
 (.ite (.t 38)
 (.seq (.rg [⟨none, [(some 4, .mv (.c (.int .i64 0))), (some 5, .mv (.c (.int .i64 4)))]⟩] [4, 5])
 .ret)
 .skip))
 (.rg [⟨none, [(some 39, .mv (.t 11)), (some 8, .mv (.t 39))]⟩] [0, 8, 24, 25, 26])))))
 (.rg [⟨none, [(some 40, .bin .add (.t 26) (.c (.int .i64 1))), (some 26, .mv (.t 40))]⟩] [0, 8, 24, 25, 26]))))
def c_path_Resolve : Cd :=
 (.seq (.rg [⟨none, [(some 4, .mv (.c (.int .i64 0))), (some 5, .mv (.c (.int .i64 0)))]⟩] [0, 1])
 (.seq (.seq (.rg [⟨none, [(some 13, .mv (.t 0)), (some 14, .call 35 [(.t 13)]), (some 15, .bin .eql (.t 14) (.c (.int .i64 0)))]⟩] [0, 1, 15])
 (.ite (.t 15)
 (.seq (.rg [⟨none, [(some 4, .mv (.c (.int .i64 0))), (some 5, .mv (.c (.int .i64 2)))]⟩] [4, 5])
 .ret)
 .skip))
 (.seq (.rg [⟨none, [(some 17, .mv (.t 1)), (some 18, .call 14 [(.t 17)]), (some 16, .mv (.t 18)), (some 19, .ext (.t 16) 0), (some 20, .ext (.t 16) 1), (some 6, .mv (.t 19)), (some 7, .mv (.t 20))]⟩] [0, 6, 7])
 (.seq (.seq (.rg [⟨none, [(some 21, .mv (.t 7)), (some 22, .bin .neq (.t 21) (.c (.int .i64 0)))]⟩] [0, 6, 7, 22])
 (.ite (.t 22)
 (.seq (.rg [⟨none, [(some 23, .mv (.t 7)), (some 4, .mv (.c (.int .i64 0))), (some 5, .mv (.t 23))]⟩] [4, 5])
 .ret)
 .skip))
 (.seq (.rg [⟨none, [(some 8, .mv (.c (.int .i64 1)))]⟩] [0, 6, 8])
 (.seq (.seq (.rg [⟨none, [(some 24, .mv (.t 6)), (none, .gh), (some 25, .len (.t 24)), (some 26, .mv (.c (.int .i64 0)))]⟩] [0, 8, 24, 25, 26])
 (.block 0 (.loop c_path_Resolve_L0)))
 (.seq (.rg [⟨none, [(some 41, .mv (.t 8)), (some 4, .mv (.t 41)), (some 5, .mv (.c (.int .i64 0)))]⟩] [4, 5])
 .ret)))))))
theorem k_path_Resolve : Ok Tryz.prog 11 c_path_Resolve 42 [] [.tmp 4, .tmp 5] := Ok.mk' Tryz.func11 (by kernel_rfl) (by kernel_rfl) (by kernel_rfl)

abbrev f_law20_PathFinds : Nat := 3
def c_law20_PathFinds_L0 : Cd :=
 (.seq (.seq (.rg [⟨none, [(some 60, .mv (.t 12)), (some 61, .bin .neq (.t 60) (.c (.int .i64 1)))]⟩] [3, 6, 9, 10, 11, 12, 29, 30, 31, 61])
 (.ite (.t 61)
 .skip
 (.exit 2)))
 (.block 3 (.seq (.rg [⟨none, [(some 63, .mv (.t 3)), (some 64, .mv (.t 12)), (some 65, .call 12 [(.t 63), (.t 64)]), (some 62, .mv (.t 65)), (some 66, .ext (.t 62) 0), (some 67, .ext (.t 62) 1), (some 13, .new 32 (.c (.s (.int .i64 0)) (.c (.s (.int .i64 0)) (.c (.s (.string ⟨#[]⟩)) (.c (.s (.slice none 0 0)) .u))))), (none, .st (.t 13) (.t 66) 4), (some 14, .mv (.t 67))]⟩] [3, 6, 9, 10, 11, 12, 13, 14, 29, 30, 31])
 (.seq (.seq (.rg [⟨none, [(some 68, .mv (.t 14)), (some 69, .un .not (.t 68))]⟩] [3, 6, 9, 10, 11, 12, 13, 29, 30, 31, 69])
 (.ite (.t 69)
 (.seq (.rg [⟨none, [(some 2, .mv (.c (.bool false)))]⟩] [2])
 .ret)
 .skip))
 (.seq (.rg [⟨none, [(some 71, .mv (.t 3)), (some 72, .fldA (.t 13) 1 1), (some 73, .ld (.t 72) 1 false), (some 74, .fldA (.t 13) 2 2), (some 75, .ld (.t 74) 1 false), (some 76, .call 13 [(.t 71), (.t 73), (.t 75)]), (some 70, .mv (.t 76)), (some 77, .ext (.t 70) 0), (some 78, .ext (.t 70) 1), (some 15, .mv (.t 77)), (some 16, .mv (.t 78))]⟩] [3, 6, 9, 10, 11, 12, 13, 15, 29, 30, 31])
 (.seq (.rg [⟨none, [(some 79, .mv (.t 11)), (some 80, .mv (.t 79))]⟩, ⟨some (80, true), [(some 81, .mv (.t 15)), (some 82, .mv (.t 12)), (some 83, .bin .eql (.t 81) (.t 82))]⟩, ⟨none, [(some 84, .pick (.t 80) (.t 83) (.c (.bool false))), (some 11, .mv (.t 84))]⟩] [3, 6, 9, 10, 11, 13, 29, 30, 31])
 (.rg [⟨none, [(some 85, .fldA (.t 13) 1 1), (some 86, .ld (.t 85) 1 false), (some 12, .mv (.t 86))]⟩] [3, 6, 9, 10, 11, 12, 29, 30, 31])))))))
def c_law20_PathFinds_L1 : Cd :=
 (.seq (.rg [⟨none, [(some 32, .bin .lss (.t 31) (.t 30))]⟩] [3, 29, 30, 31, 32])
 (.seq (.ite (.t 32)
 .skip
 (.exit 0))
 (.seq (.block 1 (.seq (.rg [⟨none, [(some 33, .idxS (.t 29) (.t 31) 4), (some 34, .ld (.t 33) 4 true), (some 6, .new 32 (.c (.s (.int .i64 0)) (.c (.s (.int .i64 0)) (.c (.s (.string ⟨#[]⟩)) (.c (.s (.slice none 0 0)) .u))))), (none, .st (.t 6) (.t 34) 4)]⟩] [3, 6, 29, 30, 31])
 (.seq (.rg [⟨none, [(some 36, .mv (.t 3)), (some 37, .fldA (.t 6) 0 0), (some 38, .ld (.t 37) 1 false), (some 39, .call 9 [(.t 36), (.t 38)]), (some 35, .mv (.t 39)), (some 40, .ext (.t 35) 0), (some 41, .ext (.t 35) 1), (some 7, .mv (.t 40)), (some 8, .mv (.t 41))]⟩] [3, 6, 7, 8, 29, 30, 31])
 (.seq (.seq (.rg [⟨none, [(some 42, .mv (.t 3)), (some 43, .fldA (.t 6) 0 0), (some 44, .ld (.t 43) 1 false), (some 45, .call 10 [(.t 42), (.t 44), (.c (.int .i64 2))])]⟩] [3, 6, 7, 8, 29, 30, 31, 45])
 (.ite (.t 45)
 (.seq (.seq (.rg [⟨none, [(some 46, .mv (.t 8)), (some 47, .bin .neq (.t 46) (.c (.int .i64 201)))]⟩] [3, 29, 30, 31, 47])
 (.ite (.t 47)
 (.seq (.rg [⟨none, [(some 2, .mv (.c (.bool false)))]⟩] [2])
 .ret)
 .skip))
 (.exit 1))
 .skip))
 (.seq (.seq (.rg [⟨none, [(some 48, .mv (.t 8)), (some 49, .bin .eql (.t 48) (.c (.int .i64 3)))]⟩] [3, 6, 7, 8, 29, 30, 31, 49])
 (.ite (.t 49)
 (.exit 1)
 .skip))
 (.seq (.rg [⟨none, [(some 51, .mv (.t 3)), (some 52, .mv (.t 7)), (some 53, .call 11 [(.t 51), (.t 52)]), (some 50, .mv (.t 53)), (some 54, .ext (.t 50) 0), (some 55, .ext (.t 50) 1), (some 9, .mv (.t 54)), (some 10, .mv (.t 55))]⟩] [3, 6, 8, 9, 10, 29, 30, 31])
 (.seq (.seq (.rg [⟨none, [(some 56, .mv (.t 8)), (some 57, .bin .neq (.t 56) (.c (.int .i64 0)))]⟩] [3, 6, 9, 10, 29, 30, 31, 57])
 (.ite (.t 57)
 (.seq (.rg [⟨none, [(some 2, .mv (.c (.bool false)))]⟩] [2])
 .ret)
 .skip))
 (.seq (.rg [⟨none, [(some 11, .mv (.c (.bool true)))]⟩] [3, 6, 9, 10, 11, 29, 30, 31])
 (.seq (.seq (.rg [⟨none, [(some 58, .fldA (.t 6) 0 0), (some 59, .ld (.t 58) 1 false), (some 12, .mv (.t 59))]⟩] [3, 6, 9, 10, 11, 12, 29, 30, 31])
 (.block 2 (.loop c_law20_PathFinds_L0)))
 (.seq (.rg [⟨none, [(some 87, .mv (.t 11)), (some 88, .mv (.t 87))]⟩, ⟨some (88, true), [(some 89, .mv (.t 10)), (some 90, .bin .neq (.t 89) (.c (.int .i64 0))), (some 91, .mv (.t 90))]⟩, ⟨some (91, false), [(some 92, .mv (.t 9)), (some 93, .fldA (.t 6) 0 0), (some 94, .ld (.t 93) 1 false), (some 95, .bin .neq (.t 92) (.t 94))]⟩, ⟨some (88, true), [(some 96, .pick (.t 91) (.c (.bool true)) (.t 95))]⟩, ⟨none, [(some 97, .pick (.t 88) (.t 96) (.c (.bool false)))]⟩] [3, 29, 30, 31, 97])
 (.ite (.t 97)
 (.seq (.rg [⟨none, [(some 2, .mv (.c (.bool false)))]⟩] [2])
 .ret)
 .skip)))))))))))
 (.rg [⟨none, [(some 98, .bin .add (.t 31) (.c (.int .i64 1))), (some 31, .mv (.t 98))]⟩] [3, 29, 30, 31]))))
def c_law20_PathFinds : Cd :=
 (.seq (.rg [⟨none, [(some 2, .mv (.c (.bool false)))]⟩] [0])
 (.seq (.rg [⟨none, [(some 18, .mv (.t 0)), (some 19, .call 6 [(.t 18)]), (some 17, .mv (.t 19)), (some 20, .ext (.t 17) 0), (some 21, .ext (.t 17) 1), (some 3, .mv (.t 20)), (some 4, .mv (.t 21))]⟩] [3])
 (.seq (.seq (.rg [⟨none, [(some 22, .call 7 []), (some 23, .un .not (.t 22)), (some 24, .mv (.t 23))]⟩, ⟨some (24, false), [(some 25, .mv (.t 3)), (some 26, .eqA false 23 (.t 25) (.c (.pointer none)))]⟩, ⟨none, [(some 27, .pick (.t 24) (.c (.bool true)) (.t 26))]⟩] [3, 27])
 (.ite (.t 27)
 (.seq (.rg [⟨none, [(some 2, .mv (.c (.bool false)))]⟩] [2])
 .ret)
 .skip))
 (.seq (.seq (.rg [⟨none, [(some 28, .mv (.t 3)), (some 29, .call 8 [(.t 28)]), (none, .gh), (some 30, .len (.t 29)), (some 31, .mv (.c (.int .i64 0)))]⟩] [3, 29, 30, 31])
 (.block 0 (.loop c_law20_PathFinds_L1)))
 (.seq (.rg [⟨none, [(some 2, .mv (.c (.bool true)))]⟩] [2])
 .ret)))))
theorem k_law20_PathFinds : Ok Tryz.prog 3 c_law20_PathFinds 99 [] [.tmp 2] := Ok.mk' Tryz.func3 (by kernel_rfl) (by kernel_rfl) (by kernel_rfl)

end Go.Proofs.YtnoeabmpdjpfaaaGreatDoor.Vc

/- Of: the path of a node. -/
set_option linter.unusedVariables false
set_option linter.unusedSimpArgs false
set_option maxRecDepth 100000
namespace Go.Proofs.YtnoeabmpdjpfaaaGreatDoor.Vc
open Go Go.Proofs

/-- What Of tells. -/
def OfQ (T : PT) (n : Int) (rs : List GV) : Prop := ∃ s e, rs = [.s (.string s), .s (.int .i64 e)] ∧ (T.below n 2 = true → e = 201) ∧ (T.below n 2 = false → ∀ l, Way T l n → (l.length ≤ 64 → e = 0 ∧ s = Pa.mkS (Pa.joinS (namesW T l))) ∧ (64 < l.length → e = 3))
theorem namesW_sum {T : PT} (hg : VGood T.view) {l : List Int} {n : Int} (h : Way T l n) : (namesW T l).length = l.length ∧ ∀ x ∈ namesW T l, x.length ≤ 255 :=
  ⟨namesW_len T l, fun x hx => by
    obtain ⟨m, hm, rfl⟩ := List.mem_map.1 (List.mem_reverse.1 hx)
    exact Pa.nameA_len (h.name hg hm)⟩
theorem Way.eq {T : PT} : ∀ {l l' : List Int} {n : Int}, Way T l n → Way T l' n → l = l'
  | [], [], _, _, _ => rfl
  | [], _ :: _, n, h, h' => by
    have e : n = 1 := h
    have := h'.2.1
    rw [e] at this; cases this
  | _ :: _, [], n, h', h => by
    have e : n = 1 := h
    have := h'.2.1
    rw [e] at this; cases this
  | a :: l, b :: l', n, ⟨e, _, x, hx, hw⟩, ⟨e', _, x', hx', hw'⟩ => by
    rw [hx] at hx'; cases hx'
    rw [hw.eq hw', ← e, ← e']

section
variable {w : World} {u : PH} {L : Lay} {T : PT} {k : Nat}
theorem Of_spec (hu : u.le w) (hT : TM u L T) (n : Int) (hok : T.ok k) (hk' : k ≤ 1099511627776) (hg : VGood T.view) (hn : T.has n = true) :
    Spec Tryz.prog f_path_Of [ptr (L .t), .int .i64 n] PH.no w fun rs _ => OfQ T n rs := by
  refine spec_val k_path_Of (Qf := OfQ T n) [.g (.s (ptr (L .t))), .g (.s (.int .i64 n))] (by simp) (by simp [AV.ok, GV.ok, Value.oneCell', ptr]) ?_
  have hm := hok.many
  have hsm : ∀ n x, T.get n = some x → x.small := (ok_tells hok hk').small
  have hl0 : T.nodes.length ≠ 0 := fun e => by
    obtain ⟨x, hx⟩ := Option.isSome_iff_exists.1 hn
    have := getA_mem hx
    rw [List.length_eq_zero_iff.1 e] at this
    cases this
  have h2 : T.has 2 = true := has_iff.2 hg.two
  have node : ∀ (w' : World), (⟨Tryz.prog, 46, w, PH.no⟩ : Ctx).u0.le w' → ∀ (c : Int) (x : PN), T.get c = some x → Spec Tryz.prog f_tree_Tree_Node [ptr (L .t), .int .i64 c] PH.no w' fun rs _ => ∃ v, rs = [gTreeNode ⟨c, x.parent, x.name, v⟩, .s (.bool true)] := fun w' hw c x hx =>
    (Node_spec (fun b o h => hw b o (by rw [u0_no]; exact hu b o h)) hT c (hsm c)).mono fun rs m' h => by
      obtain ⟨v, e, _⟩ := h.2 x hx
      exact ⟨v, e⟩
  simp (maxSteps := 2000000) only [c_path_Of, vc_seq, vc_rg, thenQ_n, kKeep_eq, segs_nil, segs_n, ops_nil, ops_cons, vcOp, ev, look, put_mk, keep_mk, keepL, Value.oneCell', cond_true, Nat.reduceEqDiff, ↓reduceIte, reduceCtorEq, Nat.zero_add, initF, initP, gTreeNode_zero, ptr]
  refine call_is _ [.s (.int .i64 T.nodes.length)] rfl rfl (fun w' vs hv hw => ?_) ?_
  · obtain ⟨vs, rfl, _, hv⟩ := argsV_g hv
    obtain rfl := argsV_nil hv
    intro _
    exact Len_spec (fun b o h => hw b o (by rw [u0_no]; exact hu b o h)) hT
  simp (maxSteps := 2000000) only [retS, vc_skip, vc_ret, vc_seq, vc_rg, vc_ite, thenQ_n, thenQ_r, kKeep_eq, segs_nil, segs_n, ops_nil, ops_cons, vcOp, ev, look, put_mk, keep_mk, keepL, binV, binC, Value.oneCell', cond_true, Nat.reduceEqDiff, ↓reduceIte, reduceCtorEq, Bool.true_and, true_and, finW_r, resL, resOne, br_t]
  refine ⟨fun h => absurd (by simpa using h) hl0, fun _ => ?_⟩
  obtain ⟨x, hx⟩ := Option.isSome_iff_exists.1 hn
  refine call_val (dOk_spec rfl) rfl (Q := fun rs m' => ∃ v, rs = [gTreeNode ⟨n, x.parent, x.name, v⟩, .s (.bool true)]) (fun w' vs hv hw _ => ?_) fun rs m1 hrs hq => ?_
  · obtain ⟨vs, rfl, _, hv⟩ := argsV_g hv
    obtain ⟨vs, rfl, _, hv⟩ := argsV_g hv
    obtain rfl := argsV_nil hv
    exact node w' hw n x hx
  obtain ⟨v0, rfl⟩ := hq
  simp (maxSteps := 2000000) only [retS, List.getElem?_cons_zero, List.getElem?_cons_succ, vc_skip, vc_seq, vc_rg, vc_ite, thenQ_n, kKeep_eq, segs_nil, segs_n, ops_nil, ops_cons, vcOp, ev, look, updL, put_mk, put_mk0, keep_mk, keepL, unV, Nat.reduceEqDiff, ↓reduceIte, reduceCtorEq, Bool.and_true, Bool.true_and, Bool.not_true, true_and, and_true, ↓br_ft, getT_nil, setT_nil, gTreeNode_sz, gTreeNode_same]
  refine call_is _ [.s (.bool (T.below n 2))] rfl rfl (fun w' vs hv hw => ?_) ?_
  · obtain ⟨vs, rfl, _, hv⟩ := argsV_g hv
    obtain ⟨vs, rfl, _, hv⟩ := argsV_g hv
    obtain ⟨vs, rfl, _, hv⟩ := argsV_g hv
    obtain rfl := argsV_nil hv
    intro _
    have := BelowX_spec (fun b o h => hw b o (by rw [u0_no]; exact hu b o h)) hT n 2 (by omega)
    rwa [hn, h2, Bool.true_and, Bool.true_and] at this
  simp (maxSteps := 2000000) only [retS, vc_skip, vc_ret, vc_seq, vc_block, vc_rg, vc_ite, thenQ_n, thenQ_r, kKeep_eq, segs_nil, segs_n, ops_nil, ops_cons, vcOp, ev, look, put_mk, keep_mk, keepL, Value.oneCell', cond_true, Nat.reduceEqDiff, ↓reduceIte, reduceCtorEq, finW_r, resL, resOne, br_t]
  refine ⟨fun hb => ⟨_, _, rfl, fun _ => rfl, fun h => by rw [hb] at h; cases h⟩, fun hb => ?_⟩
  obtain ⟨l, hll, hl⟩ := way_at hok hg hn hb
  refine vc_loop (ι := List Int × List Int × Int × Value × PH) (fun q => ⟨[(0, .g (.s (.pointer (some ⟨L .t, 0, none⟩)))), (1, .g (.s (.int .i64 (q.2.2.1)))), (8, .g (.s q.2.2.2.1))], [], [], q.2.2.2.2⟩)
    (fun q => q.1 ++ q.2.1 = l ∧ q.1.length ≤ 64 ∧ Way T q.2.1 q.2.2.1 ∧ SlO q.2.2.2.2 q.2.2.2.1 9 1 ((namesW T q.1).map Pa.gN)) (fun q => q.2.1.length) ([], l, n, .slice none 0 0, PH.no) ⟨rfl, by simp, hl, ⟨fun x hx => by simp [namesW] at hx, .inl ⟨rfl, by simp [namesW]⟩⟩⟩ (ge_of ?_ ?_ rfl rfl rfl) ?_
  · simp [frIn, look]
  · simp [pvIn, look]
  rintro ⟨done, rest, cur, vN, mN⟩ ⟨hdr, hd, hW, hS⟩
  simp only at hdr hd hW hS
  generalize hQ : loopQ _ _ _ _ _ = Q
  simp (maxSteps := 2000000) only [c_path_Of_L0, vc_skip, vc_exit, vc_seq, vc_block, vc_rg, vc_ite, thenQ_n, thenQ_e, kKeep_eq, segs_nil, segs_n, ops_nil, ops_cons, vcOp, ev, look, put_mk, keep_mk, keepL, binV, binC, Value.oneCell', cond_true, Nat.reduceEqDiff, ↓reduceIte, reduceCtorEq, Bool.true_and, true_and, br_t, gTreeNode_zero]
  refine ⟨fun hc => ?_, fun hc => ?_⟩
  · cases rest with
    | nil => exact absurd (show cur = 1 from hW) (by simpa using hc)
    | cons m rest =>
      obtain ⟨rfl, htc, y, hy, hW'⟩ := hW
      refine call_val (dOk_spec rfl) rfl (Q := fun rs m' => ∃ v, rs = [gTreeNode ⟨cur, y.parent, y.name, v⟩, .s (.bool true)]) (fun w' vs hv hw _ => ?_) fun rs m1 hrs hq => ?_
      · obtain ⟨vs, rfl, _, hv⟩ := argsV_g hv
        obtain ⟨vs, rfl, _, hv⟩ := argsV_g hv
        obtain rfl := argsV_nil hv
        exact node w' hw cur y hy
      obtain ⟨v1, rfl⟩ := hq
      simp (maxSteps := 2000000) only [retS, List.getElem?_cons_zero, List.getElem?_cons_succ, vc_seq, vc_rg, thenQ_n, kKeep_eq, segs_nil, segs_n, ops_nil, ops_cons, vcOp, ev, evL, gvL, look, updL, put_mk, put_mk0, keep_mk, keepL, GV.getT, GV.sz, Nat.reduceEqDiff, ↓reduceIte, reduceCtorEq, List.nil_append, Nat.zero_add, Bool.and_true, Bool.true_and, Bool.not_false, true_and, and_true, Option.map_some, szAll, List.length_cons, List.length_nil, getT_nil, setT_nil, fits_s, gTreeNode_sz, gTreeNode_same, gTreeNode_fld2, gTreeNode_get2]
      refine gh_own 36 36 (.s (.string ⟨#[]⟩)) rfl rfl hS (uni_no_r _).symm (dis_no_r _) ?_
      simp (maxSteps := 2000000) only [ops_cons, vcOp, ev, look, updL, put_mk, rowE, cond_true, cond_false, Nat.reduceEqDiff, Nat.reduceBEq, ↓reduceIte, List.nil_append, List.cons_append, Nat.zero_add, Bool.and_true, Bool.true_and, BEq.rfl, true_and, and_true, List.length_cons, List.length_nil, kill, SV.mentions, ne_eq, not_false_eq_true, List.drop_zero, List.length_map]
      refine ⟨by rw [namesW_len]; omega, ?_⟩
      refine gh_pub 37 35 (1 + (namesW T done).length) rfl rfl (by simp; omega) fun v' u' hv' hS' hd' => ?_
      have eN : namesW T (done ++ [cur]) = nameL T cur :: namesW T done := by simp [namesW]
      have eS : GV.s (Value.string y.name) :: ((namesW T done).map Pa.gN).take (namesW T done).length = (namesW T (done ++ [cur])).map Pa.gN := by
        rw [eN, List.map_cons, List.take_of_length_le (by simp), Pa.gN, nameL_mk hy]
      rw [eS] at hS'
      rcases Pa.names_shape hS'.toR with ⟨h3, _⟩ | ⟨h3, b', o', c', h4, h5, _⟩
      · rw [eN] at h3; cases h3
      have h6 : (namesW T (done ++ [cur])).length = done.length + 1 := by rw [namesW_len]; simp
      rw [h6] at h4
      subst h4
      simp (maxSteps := 2000000) only [vc_skip, vc_ret, vc_seq, vc_rg, vc_ite, thenQ_n, blockQ_n, blockQ_r, kKeep_eq, segs_nil, segs_n, ops_nil, ops_cons, vcOp, ev, look, put_mk, keep_mk, keepL, binV, binC, Value.oneCell', cond_true, cond_false, Nat.reduceEqDiff, Nat.reduceBEq, ↓reduceIte, reduceCtorEq, List.nil_append, Bool.true_and, BEq.rfl, true_and, decide_eq_true_eq, decide_eq_false_iff_not, kill, SV.mentions, br_t, getT_nil]
      refine ⟨rfl, rfl, ?_⟩
      rw [uni_no_r, show (gTreeNode ⟨cur, y.parent, y.name, v1⟩).getT [1] = .s (.int .i64 y.parent) from rfl]
      have hll' : (done ++ [cur]).length + rest.length = l.length := by rw [← hdr]; simp; omega
      refine ⟨fun hg64 => ?_, fun hg64 => ?_⟩
      · subst hQ
        simp (maxSteps := 2000000) only [thenQ_r, blockQ_r, loopQ_r, look, Nat.reduceEqDiff, ↓reduceIte, finW_r, resL, resOne]
        refine ⟨_, _, rfl, (fun h => by rw [hb] at h; cases h), fun _ l' hl' => ?_⟩
        have := hl.eq hl'
        subst this
        simp only [List.length_append, List.length_cons, List.length_nil] at hll'
        exact ⟨fun h => by omega, fun _ => rfl⟩
      · subst hQ; simp only [loopQ_n]; refine ⟨(done ++ [cur], rest, y.parent, .slice (some ⟨b', o', none⟩) (done.length + 1) c', u'), ?_, ?_, ge_of ?_ ?_ rfl rfl rfl⟩
        · exact ⟨by simp [← hdr], by simp only [List.length_append, List.length_cons, List.length_nil]; omega, hW', hS'⟩
        · simp only [List.length_cons]; omega
        · simp only [frIn, look, Nat.reduceEqDiff, ↓reduceIte, reduceCtorEq, Bool.and_true, and_true]
          try simp
        · simp [pvIn, look]
  · subst hQ
    simp (maxSteps := 2000000) only [vc_seq, vc_rg, thenQ_n, blockQ_e, loopQ_e, segs_n, ops_cons, vcOp, ev, look, put_mk, Nat.reduceEqDiff, ↓reduceIte, reduceCtorEq]
    have hc1 : cur = 1 := by simpa using hc
    subst hc1
    have hr : rest = [] := by
      cases rest with
      | nil => rfl
      | cons m rest => exact absurd hW.2.1 (by decide)
    subst hr
    rw [List.append_nil] at hdr
    subst hdr
    obtain ⟨hlen, hsz⟩ := namesW_sum hg hl
    have hsum : ((namesW T done).map List.length).sum + (namesW T done).length ≤ 140737488355328 := by
      have := Pa.sumL_le (ns := namesW T done) fun x hx => by
        obtain ⟨m, hm, rfl⟩ := List.mem_map.1 (List.mem_reverse.1 hx)
        exact hl.name hg hm
      unfold Pa.sumL at this
      omega
    refine call_ism _ [.s (.string (Pa.mkS (Lib.join (namesW T done) [47])))] rfl rfl (fun w' vs hv _ _ hm => ?_) ?_
    · obtain ⟨vs, rfl, _, hv⟩ := argsV_g hv
      obtain ⟨vs, rfl, _, hv⟩ := argsV_g hv
      obtain rfl := argsV_nil hv
      exact Pa.Join_spec w' vN (namesW T done) hsum mN hm hS.toR
    simp (maxSteps := 2000000) only [retS, vc_ret, thenQ_n, kKeep_eq, segs_nil, ops_nil, ops_cons, vcOp, ev, look, put_mk, keep_mk, keepL, binV, binC, Value.oneCell', cond_true, Nat.reduceEqDiff, ↓reduceIte, finW_r, resL, resOne]
    have hjl := Pa.join_len (namesW T done)
    refine ⟨?_, _, _, rfl, (fun h => by rw [hb] at h; cases h), fun _ l' hl' => ?_⟩
    · rw [Pa.mkS_size, show (⟨#[47]⟩ : ByteArray).size = 1 from rfl]
      omega
    have := hl.eq hl'
    subst this
    refine ⟨fun _ => ⟨rfl, ?_⟩, fun h => by omega⟩
    rw [show (⟨#[47]⟩ : ByteArray) = Pa.mkS [47] from rfl, Pa.mkS_app]
    rfl
end
end Go.Proofs.YtnoeabmpdjpfaaaGreatDoor.Vc

/- Resolve: the node at a path. -/
set_option linter.unusedVariables false
set_option linter.unusedSimpArgs false
set_option maxRecDepth 100000
namespace Go.Proofs.YtnoeabmpdjpfaaaGreatDoor.Vc
open Go Go.Proofs

theorem way_step {T : PT} (hkd : T.kidsOk) (hg : VGood T.view) {l : List Int} {n : Int} {i : Nat} (h : Way T l n) (hi : i < l.length) (ha : ∀ m ∈ l, Alone T m) {cur : Int} {y : PN} (hc : Way T (l.drop (l.length - i)) cur) (hy : T.get cur = some y) {best : Int}
    (hL : LookP T (Pa.mkS ((namesW T l).getD i [])) y.kids best) : best ≠ 0 ∧ Way T (l.drop (l.length - (i + 1))) best := by
  obtain ⟨j, hj⟩ : ∃ j, l.length - (i + 1) = j := ⟨_, rfl⟩
  have hj2 : l.length - i = j + 1 := by omega
  rw [hj2] at hc
  rw [hj]
  have hjl : j < l.length := by omega
  obtain ⟨m0, hm0⟩ := h.drop j
  rw [List.drop_eq_getElem_cons hjl] at hm0 ⊢
  obtain ⟨rfl, ht, x, hx, hw⟩ := hm0
  have e := hw.uniq hc
  subst e
  have hn : (namesW T l).getD i [] = nameL T l[j] := by
    rw [List.getD_eq_getElem?_getD, namesW, List.getElem?_reverse (by rw [List.length_map]; exact hi), List.length_map, List.getElem?_map, show l.length - 1 - i = j by omega, List.getElem?_eq_getElem hjl]
    rfl
  rw [hn, nameL_mk hx] at hL
  obtain ⟨h0, h1⟩ := look_alone hkd hg hx ht hy hL
  have := h1.2 (ha _ (List.getElem_mem hjl))
  exact ⟨h0, by rw [this]; exact ⟨rfl, ht, x, hx, hc⟩⟩

/-- What Resolve tells. -/
def ResQ (T : PT) (p : List UInt8) (rs : List GV) : Prop := ∃ g e, rs = [.s (.int .i64 g), .s (.int .i64 e)] ∧ ∀ l n, Way T l n → l.length ≤ 64 → p = Pa.joinS (namesW T l) → (∀ m ∈ l, Alone T m) → g = n ∧ e = 0

section
variable {w : World} {u : PH} {L : Lay} {T : PT} {k : Nat}
theorem Resolve_spec (hu : u.le w) (hT : TM u L T) (p : List UInt8) (hp : p.length < 4294967281) (uG : PH) (huG : uG.le w) (hG : Pa.GlobI uG) (hok : T.ok k) (hk' : k ≤ 1099511627776) (hg : VGood T.view) (hkd : T.kidsOk) :
    Spec Tryz.prog f_path_Resolve [ptr (L .t), .string (Pa.mkS p)] PH.no w fun rs _ => ResQ T p rs := by
  refine spec_val k_path_Resolve (Qf := ResQ T p) [.g (.s (ptr (L .t))), .g (.s (.string (Pa.mkS p)))] (by simp) (by simp [AV.ok, GV.ok, Value.oneCell', ptr]) ?_
  have hl0 : T.nodes.length ≠ 0 := fun e => by
    obtain ⟨a, ha⟩ := Option.ne_none_iff_exists'.1 hg.one
    obtain ⟨y, hy, _⟩ := get_of_view ha
    have := getA_mem hy
    rw [List.length_eq_zero_iff.1 e] at this
    cases this
  obtain ⟨y1, hy1⟩ : ∃ y, T.get 1 = some y := by
    obtain ⟨a, ha⟩ := Option.ne_none_iff_exists'.1 hg.one
    obtain ⟨y, hy, _⟩ := get_of_view ha
    exact ⟨y, hy⟩
  simp (maxSteps := 2000000) only [c_path_Resolve, vc_seq, vc_rg, thenQ_n, kKeep_eq, segs_nil, segs_n, ops_nil, ops_cons, vcOp, ev, look, put_mk, keep_mk, keepL, Value.oneCell', cond_true, Nat.reduceEqDiff, ↓reduceIte, reduceCtorEq, Nat.zero_add, initF, initP, ptr]
  refine call_is _ [.s (.int .i64 T.nodes.length)] rfl rfl (fun w' vs hv hw => ?_) ?_
  · obtain ⟨vs, rfl, _, hv⟩ := argsV_g hv
    obtain rfl := argsV_nil hv
    intro _
    exact Len_spec (fun b o h => hw b o (by rw [u0_no]; exact hu b o h)) hT
  simp (maxSteps := 2000000) only [retS, vc_skip, vc_ret, vc_seq, vc_rg, vc_ite, thenQ_n, thenQ_r, kKeep_eq, segs_nil, segs_n, ops_nil, ops_cons, vcOp, ev, look, put_mk, keep_mk, keepL, binV, binC, Value.oneCell', cond_true, Nat.reduceEqDiff, ↓reduceIte, reduceCtorEq, Bool.true_and, true_and, finW_r, resL, resOne, br_t]
  refine ⟨fun h => absurd (by simpa using h) hl0, fun _ => ?_⟩
  refine call_frz (dOk_spec rfl) rfl (Q := Pa.SplitR (Pa.splitA p)) (fun w' vs hv hw _ => ?_) fun rs m' hrs hq => ?_
  · obtain ⟨vs, rfl, _, hv⟩ := argsV_g hv
    obtain rfl := argsV_nil hv
    exact Pa.pSplit_spec w' p hp uG (fun b o hb => hw b o (by rw [u0_no]; exact huG b o hb)) hG
  obtain ⟨ns, er, hse⟩ : ∃ ns er, Pa.splitA p = (ns, er) := ⟨_, _, rfl⟩
  rw [hse] at hq
  obtain ⟨v, rfl, hv⟩ := hq
  simp only at hv
  have hsw : ∀ l n, Way T l n → l.length ≤ 64 → p = Pa.joinS (namesW T l) → ns = namesW T l ∧ er = 0 := fun l n h1 h2 h3 => by
    have := Pa.split_join (h1.wrong hg h2)
    rw [← h3, hse] at this
    exact ⟨congrArg Prod.fst this, congrArg Prod.snd this⟩
  have hnl : ns.length ≤ 64 := by
    have := Pa.splitA_len p
    rwa [hse] at this
  simp (maxSteps := 2000000) only [retS, List.getElem?_cons_zero, List.getElem?_cons_succ, vc_skip, vc_ret, vc_seq, vc_rg, vc_ite, thenQ_n, thenQ_r, kKeep_eq, segs_nil, segs_n, ops_nil, ops_cons, vcOp, ev, look, put_mk, keep_mk, keepL, binV, binC, Value.oneCell', cond_true, Nat.reduceEqDiff, ↓reduceIte, reduceCtorEq, Bool.true_and, true_and, finW_r, resL, resOne, br_t]
  refine ⟨fun he => ?_, fun he => ?_⟩
  · refine ⟨_, _, rfl, fun l n h1 h2 h3 _ => ?_⟩
    have := (hsw l n h1 h2 h3).2
    rw [this] at he
    simp at he
  refine gh_rk 24 24 (.s (.string ⟨#[]⟩)) rfl rfl hv.toR (KN.mem (by simp)) ?_
  simp (maxSteps := 2000000) only [vc_block, thenQ_n, kKeep_eq, segs_nil, ops_nil, ops_cons, vcOp, ev, look, put_mk, keep_mk, keepL, Value.oneCell', cond_true, Nat.reduceEqDiff, ↓reduceIte, reduceCtorEq, List.length_map]
  refine vc_loop (ι := Nat × Int) (fun q => ⟨[(0, .g (.s (.pointer (some ⟨L .t, 0, none⟩)))), (8, .g (.s (.int .i64 (q.2)))), (24, .row 24 0 (ns.length)), (25, .g (.s (.int .i64 (ns.length)))), (26, .g (.s (.int .i64 (q.1))))], [(24, .ro 1 (.s (.string ⟨#[]⟩)) (ns.map Pa.gN))], [m'], PH.no⟩)
    (fun q => q.1 ≤ ns.length ∧ (∃ y, T.get q.2 = some y) ∧ ∀ l n, Way T l n → l.length ≤ 64 → p = Pa.joinS (namesW T l) → (∀ m ∈ l, Alone T m) → Way T (l.drop (l.length - q.1)) q.2) (fun q => ns.length - q.1) (0, 1) ⟨by simp, ⟨y1, hy1⟩, fun l n _ _ _ _ => by simp [Way]⟩ (ge_of ?_ ?_ rfl rfl rfl) ?_
  · simp [frIn, look]
  · simp [pvIn, look]
  rintro ⟨i, cur⟩ ⟨hi, ⟨y, hy⟩, hW⟩
  simp only at hi hy hW
  generalize hQ : loopQ _ _ _ _ _ = Q
  simp (maxSteps := 2000000) only [c_path_Resolve_L0, Pa.getD_gN, vc_skip, vc_exit, vc_seq, vc_block, vc_rg, vc_ite, thenQ_n, thenQ_e, kKeep_eq, segs_nil, segs_n, ops_nil, ops_cons, vcOp, ev, look, put_mk, keep_mk, keepL, rowE, rowD, binV, binC, Nat.reduceEqDiff, ↓reduceIte, reduceCtorEq, Nat.zero_add, Bool.true_and, Bool.not_false, true_and, Int.toNat_natCast, decide_eq_true_eq, decide_eq_false_iff_not, br_t, getT_nil, fits_s]
  refine ⟨fun hlt => ⟨⟨by omega, by omega⟩, ?_⟩, fun hge => ?_⟩
  · refine call_val (dOk_spec rfl) rfl (Q := fun rs m' => ∃ best, rs = [.s (.int .i64 best), .s (.bool (best != 0))] ∧ LookP T (Pa.mkS (ns.getD i [])) y.kids best) (fun w' vs hv hw _ => ?_) fun rs m1 hrs hq => ?_
    · obtain ⟨vs, rfl, _, hv⟩ := argsV_g hv
      obtain ⟨vs, rfl, _, hv⟩ := argsV_g hv
      obtain ⟨vs, rfl, _, hv⟩ := argsV_g hv
      obtain rfl := argsV_nil hv
      exact Lookup_spec w' u (fun b o h => hw b o (by rw [u0_no]; exact hu b o h)) L T hT cur _ y hy (kids_get hkd hg hy)
    obtain ⟨best, rfl, hL⟩ := hq
    have hstep : ∀ l n, Way T l n → l.length ≤ 64 → p = Pa.joinS (namesW T l) → (∀ m ∈ l, Alone T m) → best ≠ 0 ∧ Way T (l.drop (l.length - (i + 1))) best := fun l n h1 h2 h3 h4 => by
      have e := (hsw l n h1 h2 h3).1
      rw [e] at hL
      exact way_step hkd hg h1 (by rw [← namesW_len T l, ← e]; omega) h4 (hW l n h1 h2 h3 h4) hy hL
    simp (maxSteps := 2000000) only [retS, List.getElem?_cons_zero, List.getElem?_cons_succ, vc_skip, vc_ret, vc_seq, vc_rg, vc_ite, thenQ_n, thenQ_r, blockQ_n, blockQ_r, kKeep_eq, segs_nil, segs_n, ops_nil, ops_cons, vcOp, ev, look, put_mk, keep_mk, keepL, binV, binC, unV, Value.oneCell', cond_true, Nat.reduceEqDiff, ↓reduceIte, reduceCtorEq, Bool.true_and, true_and, br_t]
    refine ⟨fun hb => ?_, fun hb => ?_⟩
    · subst hQ
      simp (maxSteps := 2000000) only [thenQ_r, blockQ_r, loopQ_r, look, Nat.reduceEqDiff, ↓reduceIte, finW_r, resL, resOne]
      refine ⟨_, _, rfl, fun l n h1 h2 h3 h4 => ?_⟩
      have := (hstep l n h1 h2 h3 h4).1
      simp [this] at hb
    · have hb0 : best ≠ 0 := by simpa using hb
      subst hQ; simp only [loopQ_n]; refine ⟨(i + 1, best), ?_, ?_, ge_of ?_ ?_ rfl rfl rfl⟩
      · refine ⟨by simp only; omega, ?_, fun l n h1 h2 h3 h4 => (hstep l n h1 h2 h3 h4).2⟩
        rcases hL with ⟨h1, _⟩ | ⟨h1, _, _⟩
        · exact absurd h1 hb0
        · exact (kids_get hkd hg hy best h1).2
      · simp only; omega
      · simp only [frIn, look, Nat.reduceEqDiff, ↓reduceIte, reduceCtorEq, Bool.and_true, Bool.true_and, true_and, and_true]
        rw [wrap_n (by omega)]
        try simp
      · simp [pvIn, look]
  · subst hQ
    simp (maxSteps := 2000000) only [vc_ret, vc_seq, vc_rg, thenQ_n, blockQ_e, kKeep_eq, loopQ_e, segs_nil, segs_n, ops_nil, ops_cons, vcOp, ev, look, put_mk, keep_mk, keepL, Value.oneCell', cond_true, Nat.reduceEqDiff, ↓reduceIte, reduceCtorEq, finW_r, resL, resOne]
    refine ⟨_, _, rfl, fun l n h1 h2 h3 h4 => ⟨?_, rfl⟩⟩
    have := hW l n h1 h2 h3 h4
    have e := congrArg List.length (hsw l n h1 h2 h3).1
    rw [namesW_len] at e
    rw [show l.length - i = 0 by omega, List.drop_zero] at this
    exact this.uniq h1
end
end Go.Proofs.YtnoeabmpdjpfaaaGreatDoor.Vc

/- PathFinds, the walk. -/
set_option linter.unusedVariables false
set_option linter.unusedSimpArgs false
set_option maxRecDepth 100000
namespace Go.Proofs.YtnoeabmpdjpfaaaGreatDoor.Vc
open Go Go.Proofs

theorem joinW_len {T : PT} (hg : VGood T.view) {l : List Int} {n : Int} (h : Way T l n) (hl : l.length ≤ 64) : (Pa.joinS (namesW T l)).length < 4294967281 := by
  have h1 := Pa.sumL_le (ns := namesW T l) fun x hx => by
    obtain ⟨m, hm, rfl⟩ := List.mem_map.1 (List.mem_reverse.1 hx)
    exact h.name hg hm
  have h2 := Pa.join_len (namesW T l)
  unfold Pa.sumL at h1
  rw [namesW_len] at h1 h2
  rw [Pa.joinS, List.length_cons]
  omega

theorem finds_spec (w : World) (va : Value) (ops : List Op) (hl : ops.length ≤ 1048576) (ho : ∀ op ∈ ops, OpOk op) (u : PH) (hu : u.le w) (hc : SlR u va 8 (ops.map gOp)) (uG : PH) (huG : uG.le w) (hG : Pa.GlobI uG) :
    Spec Tryz.prog f_law20_PathFinds [va] PH.no w fun rs _ => rs = [.s (.bool true)] := by
  refine spec_val k_law20_PathFinds (Qf := fun rs => rs = [.s (.bool true)]) [.ro va 8 (gOp zOp) (ops.map gOp)] (by simp) (by simpa [AV.ok, u0_no] using hc.up hu.sub) ?_
  simp (maxSteps := 2000000) only [c_law20_PathFinds, vc_seq, vc_rg, thenQ_n, kKeep_eq, segs_nil, segs_n, ops_nil, ops_cons, vcOp, ev, look, put_mk, keep_mk, keepL, Value.oneCell', cond_true, ↓reduceIte, reduceCtorEq, initF, initP, List.length_map]
  refine call_frz (dOk_spec rfl) rfl (Q := fun rs m' => ∃ L T b lr ls mA mR, rs = [.s (ptr (L .t)), .s (ptr b)] ∧ m' = uni mR mA ∧ dis mR mA ∧ TM mA L T ∧ RC mR b lr ls ∧ LOk lr ∧ viewL lr = T.view ∧ T.ok ops.length ∧ VGood T.view ∧ T.kidsOk) (fun w' vs hv hw _ => ?_) fun rs m1 _ hq => ?_
  · obtain ⟨v1, vs, rfl, k1, hv⟩ := argsV_row (z := 8) (xs := ops.map gOp) rfl (by simp) hv
    obtain rfl := argsV_nil hv
    exact made20_spec w' v1 ops hl ho w'.ph (fun _ _ h => h) k1
  obtain ⟨L, T, b, lr, ls, mA, mR, rfl, rfl, hd, hT, _, _, _, hok, hg, hkd⟩ := hq
  have hA : ∀ {w' : World} {ph : List PH}, uni mR mA ∈ ph → (∀ u ∈ ph, u.le w') → mA.le w' := fun hm h b o hb => h _ hm b o (sub_uni_r hd b o hb)
  have hsm : ∀ n x, T.get n = some x → x.small := (ok_tells hok (by omega)).small
  have hmany := hok.many
  have h2 : T.has 2 = true := has_iff.2 hg.two
  simp (maxSteps := 2000000) only [retS, List.getElem?_cons_zero, List.getElem?_cons_succ, vc_seq, vc_rg, thenQ_n, kKeep_eq, segs_nil, segs_n, ops_nil, ops_cons, vcOp, ev, look, put_mk, keep_mk, keepL, Nat.reduceEqDiff, ↓reduceIte, ptr]
  refine call_is _ [.s (.bool true)] rfl rfl (fun w' vs hv hw _ => ?_) ?_
  · obtain rfl := argsV_nil hv
    exact Pa.begun_spec w' uG (fun b o hb => hw b o (by rw [u0_no]; exact huG b o hb)) hG
  simp (maxSteps := 2000000) only [retS, segs_g, ops_nil, ops_cons, vcOp, ev, look, put_mk, unV, Value.oneCell', cond_true, Nat.reduceEqDiff, ↓reduceIte, Bool.not_true, ↓br_ff]
  refine eq_of (eqTree _) ?_
  simp (maxSteps := 2000000) only [vc_skip, vc_seq, vc_rg, vc_ite, thenQ_n, kKeep_eq, segs_nil, segs_n, ops_nil, ops_cons, vcOp, ev, look, put_mk, keep_mk, keepL, Value.oneCell', cond_true, Nat.reduceEqDiff, ↓reduceIte, ↓br_ft, Bool.bne_false]
  refine call_frz (dOk_spec rfl) rfl (Q := fun rs m' => ∃ v ts, rs = [.s v] ∧ SlR m' v 4 (ts.map gTreeNode) ∧ TsOk m' ts (nodesTold T)) (fun w' vs hv hw hph => ?_) fun rs m2 _ hq => ?_
  · obtain ⟨vs, rfl, _, hv⟩ := argsV_g hv
    obtain rfl := argsV_nil hv
    exact Nodes_spec w' mA (hA (by simp) hph) L T hT (ok_tells hok (by omega))
  obtain ⟨vx, ts, rfl, hsx, hts⟩ := hq
  have htl : ts.length ≤ T.nodes.length := by rw [hts.len]; exact nodesTold_len T
  simp (maxSteps := 2000000) only [retS, ops_cons, vcOp, put_mk]
  refine gh_rk 29 29 (gTreeNode zTreeNode) rfl rfl hsx (KN.mem (by simp)) ?_
  simp (maxSteps := 2000000) only [vc_block, thenQ_n, kKeep_eq, segs_nil, ops_nil, ops_cons, vcOp, ev, look, put_mk, keep_mk, keepL, Value.oneCell', cond_true, Nat.reduceEqDiff, ↓reduceIte, List.length_map]
  refine vc_loop (ι := Nat) (fun i => ⟨[(3, .g (.s (.pointer (some ⟨L .t, 0, none⟩)))), (29, .row 29 0 (ts.length)), (30, .g (.s (.int .i64 (ts.length)))), (31, .g (.s (.int .i64 (i))))], [(29, .ro 4 (gTreeNode zTreeNode) (ts.map gTreeNode))], [m2, uni mR mA], PH.no⟩)
    (fun i => i ≤ ts.length) (fun i => ts.length - i) 0 (by simp) (ge_of ?_ ?_ rfl rfl rfl) ?_
  · simp [frIn, look]
  · simp [pvIn, look]
  rintro i hi
  generalize hQ : loopQ _ _ _ _ _ = Q
  simp (maxSteps := 2000000) only [c_law20_PathFinds_L1, vc_skip, vc_exit, vc_seq, vc_block, vc_rg, vc_ite, thenQ_n, thenQ_e, kKeep_eq, segs_nil, segs_n, ops_nil, ops_cons, vcOp, ev, look, updL, put_mk, put_mk0, keep_mk, keepL, rowE, rowD, binV, binC, GV.getT, Nat.reduceEqDiff, ↓reduceIte, List.nil_append, Nat.zero_add, Bool.and_true, Bool.true_and, Bool.not_false, true_and, and_true, Int.toNat_natCast, decide_eq_true_eq, decide_eq_false_iff_not, br_t, getT_nil, setT_nil, fits_s, gTreeNode_sz, gTreeNode_fits, gTreeNode_same, gTreeNode_fld0, gTreeNode_get0, gTreeNode_zero, getD_gTreeNode]
  refine ⟨fun hlt => ⟨⟨by omega, by omega⟩, ?_⟩, fun hge => ?_⟩
  · obtain ⟨t, ht⟩ : ∃ t, ts.getD i zTreeNode = t := ⟨_, rfl⟩
    rw [ht]
    obtain ⟨x, hx⟩ : ∃ x, T.get t.node = some x := by
      have h1 := (hts.at i (by omega)).1
      have h3 := hts.len
      rw [ht] at h1
      obtain ⟨x, hx, _⟩ := told_mem (T := T) (r := (nodesTold T).getD i zTN) (by rw [List.getD_eq_getElem?_getD, List.getElem?_eq_getElem (by omega)]; exact List.getElem_mem _)
      exact ⟨x, by rw [h1]; exact hx⟩
    have hn : T.has t.node = true := by rw [PT.has, hx]; rfl
    refine call_val (dOk_spec rfl) rfl (Q := fun rs _ => OfQ T t.node rs) (fun w' vs hv hw hph => ?_) fun rs m3 _ hq => ?_
    · obtain ⟨vs, rfl, _, hv⟩ := argsV_g hv
      obtain ⟨vs, rfl, _, hv⟩ := argsV_g hv
      obtain rfl := argsV_nil hv
      exact Of_spec (hA (by simp) hph) hT t.node hok (by omega) hg hn
    obtain ⟨so, eo, rfl, h201, hway⟩ := hq
    simp (maxSteps := 2000000) only [retS, List.getElem?_cons_zero, List.getElem?_cons_succ, vc_seq, vc_rg, thenQ_n, kKeep_eq, segs_nil, segs_n, ops_nil, ops_cons, vcOp, ev, look, put_mk, keep_mk, keepL, GV.getT, Nat.reduceEqDiff, ↓reduceIte, List.nil_append, Bool.true_and, Bool.not_false, true_and, getT_nil, fits_s, gTreeNode_fld0, gTreeNode_get0]
    refine call_is _ [.s (.bool (T.below t.node 2))] rfl rfl (fun w' vs hv hw hph => ?_) ?_
    · obtain ⟨vs, rfl, _, hv⟩ := argsV_g hv
      obtain ⟨vs, rfl, _, hv⟩ := argsV_g hv
      obtain ⟨vs, rfl, _, hv⟩ := argsV_g hv
      obtain rfl := argsV_nil hv
      have := BelowX_spec (hA (by simp) hph) hT t.node 2 (by omega)
      rwa [hn, h2, Bool.true_and, Bool.true_and] at this
    cases hb : T.below t.node 2
    · obtain ⟨l, hll, hl⟩ := way_at hok hg hn hb
      by_cases h64 : l.length ≤ 64
      · obtain ⟨rfl, rfl⟩ := (hway hb l hl).1 h64
        simp (maxSteps := 2000000) only [retS, show ((0 : Int) == 3) = false from rfl, show ((0 : Int) != 0) = false from rfl, vc_skip, vc_seq, vc_rg, vc_ite, thenQ_n, kKeep_eq, segs_nil, segs_n, ops_nil, ops_cons, vcOp, ev, look, put_mk, keep_mk, keepL, binV, binC, Value.oneCell', cond_true, Nat.reduceEqDiff, ↓reduceIte, Bool.true_and, true_and, ↓br_ft]
        refine call_val (dOk_spec rfl) rfl (Q := fun rs _ => ResQ T (Pa.joinS (namesW T l)) rs) (fun w' vs hv hw hph => ?_) fun rs m4 _ hq => ?_
        · obtain ⟨vs, rfl, _, hv⟩ := argsV_g hv
          obtain ⟨vs, rfl, _, hv⟩ := argsV_g hv
          obtain rfl := argsV_nil hv
          exact Resolve_spec (hA (by simp) hph) hT _ (joinW_len hg hl h64) uG (fun b o hb => hw b o (by rw [u0_no]; exact huG b o hb)) hG hok (by omega) hg hkd
        obtain ⟨g, e2, rfl, hres⟩ := hq
        have hres := hres l t.node hl h64 rfl
        simp (maxSteps := 2000000) only [retS, List.getElem?_cons_zero, List.getElem?_cons_succ, show ((0 : Int) != 0) = false from rfl, vc_skip, vc_seq, vc_block, vc_rg, vc_ite, thenQ_n, kKeep_eq, segs_nil, segs_n, ops_nil, ops_cons, vcOp, ev, look, put_mk, keep_mk, keepL, binV, binC, GV.getT, Value.oneCell', cond_true, Nat.reduceEqDiff, ↓reduceIte, List.nil_append, Bool.true_and, Bool.not_false, true_and, ↓br_ft, getT_nil, fits_s, gTreeNode_fld0, gTreeNode_get0]
        refine vc_loop (ι := List Int × List Int × Int × Bool) (fun q => ⟨[(3, .g (.s (.pointer (some ⟨L .t, 0, none⟩)))), (6, .ref 6 []), (9, .g (.s (.int .i64 (g)))), (10, .g (.s (.int .i64 (e2)))), (11, .g (.s (.bool q.2.2.2))), (12, .g (.s (.int .i64 (q.2.2.1)))), (29, .row 29 0 (ts.length)), (30, .g (.s (.int .i64 (ts.length)))), (31, .g (.s (.int .i64 (i))))], [(29, .ro 4 (gTreeNode zTreeNode) (ts.map gTreeNode)), (6, .box (gTreeNode t))], [m2, uni mR mA], PH.no⟩)
          (fun q => q.1 ++ q.2.1 = l ∧ Way T q.2.1 q.2.2.1 ∧ (q.2.2.2 = true ↔ ∀ m ∈ q.1, Alone T m)) (fun q => q.2.1.length) ([], l, t.node, true) ⟨rfl, hl, by simp⟩ (ge_of ?_ ?_ rfl rfl rfl) ?_
        · simp [frIn, look]
        · simp [pvIn, look]
        rintro ⟨done, rest, cur, al⟩ ⟨hdr, hW, hal⟩
        simp only at hdr hW hal
        generalize hR : loopQ _ _ _ _ _ = R
        simp (maxSteps := 2000000) only [c_law20_PathFinds_L0, vc_skip, vc_exit, vc_seq, vc_block, vc_rg, vc_ite, thenQ_n, thenQ_e, kKeep_eq, segs_nil, segs_n, ops_nil, ops_cons, vcOp, ev, look, put_mk, keep_mk, keepL, binV, binC, Value.oneCell', cond_true, Nat.reduceEqDiff, ↓reduceIte, Bool.true_and, true_and, br_t, gTreeNode_zero]
        refine ⟨fun hcn => ?_, fun hcn => ?_⟩
        · cases rest with
          | nil => exact absurd (show cur = 1 from hW) (by simpa using hcn)
          | cons m rest =>
            obtain ⟨rfl, htc, x', hx', hW'⟩ := hW
            obtain ⟨y', hy'⟩ := parent_get hg hx' htc
            refine call_val (dOk_spec rfl) rfl (Q := fun rs m' => ∃ v, rs = [gTreeNode ⟨cur, x'.parent, x'.name, v⟩, .s (.bool true)]) (fun w' vs hv hw hph => ?_) fun rs m5 _ hq => ?_
            · obtain ⟨vs, rfl, _, hv⟩ := argsV_g hv
              obtain ⟨vs, rfl, _, hv⟩ := argsV_g hv
              obtain rfl := argsV_nil hv
              exact (Node_spec (hA (by simp) hph) hT cur (hsm cur)).mono fun rs m' h => by
                obtain ⟨v, e, _⟩ := h.2 x' hx'
                exact ⟨v, e⟩
            obtain ⟨v5, rfl⟩ := hq
            simp (maxSteps := 2000000) only [retS, List.getElem?_cons_zero, List.getElem?_cons_succ, vc_skip, vc_seq, vc_rg, vc_ite, thenQ_n, kKeep_eq, segs_nil, segs_n, ops_nil, ops_cons, vcOp, ev, look, updL, put_mk, put_mk0, keep_mk, keepL, unV, GV.getT, Nat.reduceEqDiff, ↓reduceIte, List.nil_append, Bool.and_true, Bool.true_and, Bool.not_true, Bool.not_false, true_and, and_true, ↓br_ft, getT_nil, setT_nil, fits_s, gTreeNode_sz, gTreeNode_same, gTreeNode_fld1, gTreeNode_get1, gTreeNode_fld2, gTreeNode_get2]
            refine call_val (dOk_spec rfl) rfl (Q := fun rs m' => ∃ best, rs = [.s (.int .i64 best), .s (.bool (best != 0))] ∧ LookP T x'.name y'.kids best) (fun w' vs hv hw hph => ?_) fun rs m6 _ hq => ?_
            · obtain ⟨vs, rfl, _, hv⟩ := argsV_g hv
              obtain ⟨vs, rfl, _, hv⟩ := argsV_g hv
              obtain ⟨vs, rfl, _, hv⟩ := argsV_g hv
              obtain rfl := argsV_nil hv
              exact Lookup_spec w' mA (hA (by simp) hph) L T hT x'.parent x'.name y' hy' (kids_get hkd hg hy')
            obtain ⟨best, rfl, hL⟩ := hq
            obtain ⟨_, hbest⟩ := look_alone hkd hg hx' htc hy' hL
            have hnew : ∀ al', (al' = true ↔ (al = true ∧ best = cur)) → (al' = true ↔ ∀ m ∈ done ++ [cur], Alone T m) := fun al' h => by
              rw [h, hal, hbest]
              simp [or_imp, forall_and]
            simp (maxSteps := 2000000) only [retS, List.getElem?_cons_zero, List.getElem?_cons_succ, vc_seq, vc_rg, thenQ_n, blockQ_n, kKeep_eq, segs_nil, segs_n, segs_g, ops_nil, ops_cons, vcOp, RO.isGh, skip_mk, skipL, ev, look, put_mk, keep_mk, keepL, binV, binC, GV.getT, Value.oneCell', cond_true, cond_false, Nat.reduceEqDiff, ↓reduceIte, List.nil_append, Bool.true_and, Bool.not_true, Bool.not_false, true_and, ↓br_tt, ↓br_ft, br_t, getT_nil, fits_s, gTreeNode_fld1, gTreeNode_get1]
            refine ⟨fun h1 => ?_, fun h1 => ?_⟩
            · subst hR
              simp only [loopQ_n]
              refine ⟨(done ++ [cur], rest, x'.parent, best == cur), ⟨by simp [← hdr], hW', hnew _ (by simp [h1])⟩, by simp, ge_of ?_ ?_ rfl rfl rfl⟩
              · simp only [frIn, look, Nat.reduceEqDiff, ↓reduceIte, Bool.and_true, and_true]
                try simp
              · simp [pvIn, look]
            · subst hR
              simp only [loopQ_n]
              refine ⟨(done ++ [cur], rest, x'.parent, false), ⟨by simp [← hdr], hW', hnew _ (by simp [h1])⟩, by simp, ge_of ?_ ?_ rfl rfl rfl⟩
              · simp only [frIn, look, Nat.reduceEqDiff, ↓reduceIte, Bool.and_true, and_true]
                try simp
              · simp [pvIn, look]
        · subst hR
          simp (maxSteps := 2000000) only [vc_skip, vc_ret, vc_seq, vc_rg, vc_ite, thenQ_n, thenQ_r, blockQ_n, blockQ_r, blockQ_e, kKeep_eq, loopQ_e, segs_nil, segs_n, segs_g, ops_nil, ops_cons, vcOp, RO.isGh, skip_mk, skipL, ev, look, put_mk, keep_mk, keepL, binV, binC, GV.getT, Value.oneCell', cond_true, cond_false, Nat.reduceEqDiff, ↓reduceIte, List.nil_append, Bool.true_and, Bool.not_true, Bool.not_false, true_and, ↓br_tt, ↓br_ft, br_t, br_f, getT_nil, fits_s, gTreeNode_fld0, gTreeNode_get0]
          have hc1 : cur = 1 := by simpa using hcn
          subst hc1
          have hr : rest = [] := by
            cases rest with
            | nil => rfl
            | cons m rest => exact absurd hW.2.1 (by decide)
          subst hr
          rw [List.append_nil] at hdr
          subst hdr
          refine ⟨fun h1 => ?_, fun h1 => ?_⟩
          · obtain ⟨eg, ee⟩ := hres (hal.1 h1)
            refine ⟨fun _ => ⟨fun h => by simp [eg] at h, fun _ => ?_⟩, fun h => by simp [ee] at h⟩
            subst hQ
            simp only [loopQ_n]
            refine ⟨i + 1, ?_, ?_, ge_of ?_ ?_ rfl rfl rfl⟩
            · omega
            · omega
            · simp only [frIn, look, Nat.reduceEqDiff, ↓reduceIte, Bool.and_true, Bool.true_and, true_and, and_true]
              rw [wrap_n (by omega)]
              try simp
            · simp [pvIn, look]
          · subst hQ
            simp only [loopQ_n]
            refine ⟨i + 1, ?_, ?_, ge_of ?_ ?_ rfl rfl rfl⟩
            · omega
            · omega
            · simp only [frIn, look, Nat.reduceEqDiff, ↓reduceIte, Bool.and_true, Bool.true_and, true_and, and_true]
              rw [wrap_n (by omega)]
              try simp
            · simp [pvIn, look]
      · obtain rfl := (hway hb l hl).2 (by omega)
        simp (maxSteps := 2000000) only [retS, show ((3 : Int) == 3) = true from rfl, vc_skip, vc_exit, vc_seq, vc_rg, vc_ite, thenQ_n, thenQ_e, blockQ_e, kKeep_eq, segs_nil, segs_n, ops_nil, ops_cons, vcOp, ev, look, put_mk, keep_mk, keepL, binV, binC, Value.oneCell', cond_true, Nat.reduceEqDiff, ↓reduceIte, Bool.true_and, true_and, ↓br_tt, ↓br_ft]
        subst hQ; simp only [loopQ_n]; refine ⟨i + 1, ?_, ?_, ge_of ?_ ?_ rfl rfl rfl⟩
        · omega
        · omega
        · simp only [frIn, look, Nat.reduceEqDiff, ↓reduceIte, Bool.and_true, Bool.true_and, true_and, and_true]
          rw [wrap_n (by omega)]
          try simp
        · simp [pvIn, look]
    · obtain rfl := h201 hb
      simp (maxSteps := 2000000) only [retS, show ((201 : Int) != 201) = false from rfl, vc_skip, vc_exit, vc_seq, vc_rg, vc_ite, thenQ_n, thenQ_e, blockQ_e, kKeep_eq, segs_nil, segs_n, ops_nil, ops_cons, vcOp, ev, look, put_mk, keep_mk, keepL, binV, binC, Value.oneCell', cond_true, Nat.reduceEqDiff, ↓reduceIte, Bool.true_and, true_and, ↓br_tt, ↓br_ft]
      subst hQ; simp only [loopQ_n]; refine ⟨i + 1, ?_, ?_, ge_of ?_ ?_ rfl rfl rfl⟩
      · omega
      · omega
      · simp only [frIn, look, Nat.reduceEqDiff, ↓reduceIte, Bool.and_true, Bool.true_and, true_and, and_true]
        rw [wrap_n (by omega)]
        try simp
      · simp [pvIn, look]
  · subst hQ
    simp (maxSteps := 2000000) only [vc_ret, vc_seq, vc_rg, thenQ_n, blockQ_e, kKeep_eq, loopQ_e, segs_nil, segs_n, ops_nil, ops_cons, vcOp, ev, look, put_mk, keep_mk, keepL, Value.oneCell', cond_true, ↓reduceIte, finW_r, resL, resOne]
end Go.Proofs.YtnoeabmpdjpfaaaGreatDoor.Vc

/- The order of children: what their comparator tells, walked with the kit's tactics (the sort of the kit asks how many draws and blocks it takes). -/
set_option maxRecDepth 100000
namespace Go.Proofs.YtnoeabmpdjpfaaaGreatDoor.Vc
open Go Go.Proofs Go.Lib
theorem isNaN_s (s : ByteArray) (w : World) : Calls Tryz.prog 90 #[.string s] w fun e w' => e = .returned (.bool false) ∧ w' = w := by
  go_enter Tryz.func90, Tryz.ntmps90
  go_wp2
  go_ret
  exact ⟨by simp, rfl⟩
theorem isNaN_i (n : Int) (w : World) : Calls Tryz.prog 91 #[.int .i64 n] w fun e w' => e = .returned (.bool false) ∧ w' = w := by
  go_enter Tryz.func91, Tryz.ntmps91
  go_wp2
  go_ret
  exact ⟨by simp, rfl⟩
set_option maxHeartbeats 1000000 in
theorem compare_i (x y : Int) (w : World) : Calls Tryz.prog 74 #[.int .i64 x, .int .i64 y] w fun e w' => e = .returned (.int .i64 (Lib.compareInt x y)) ∧ w' = w := by
  go_enter Tryz.func74, Tryz.ntmps74
  go_wp2_with (go_at_call 91; refine (isNaN_i _ _).mono ?_; rintro e w' ⟨rfl, hw⟩; rw [hw])
  all_goals (go_ret; refine ⟨?_, rfl⟩; unfold Lib.compareInt; (repeat' split) <;> first | rfl | (exfalso; omega))
theorem gtr_s (t : TypeId) (x y : ByteArray) (w : World) : Sem.run Tryz.prog (binOp .gtr t (.string x) (.string y)) w = .ok (.bool (!(Op.bytesLess x.toList y.toList || decide (x = y)))) w := by
  have e := toList_eq' x y
  simp [binOp, Op.stringOp, e]
def cmpS (x y : ByteArray) : Int := if Op.bytesLess x.toList y.toList = true then -1 else if x = y then 0 else 1
set_option maxHeartbeats 1000000 in
theorem compare_s (x y : ByteArray) (w : World) : Calls Tryz.prog 73 #[.string x, .string y] w fun e w' => e = .returned (.int .i64 (cmpS x y)) ∧ w' = w := by
  go_enter Tryz.func73, Tryz.ntmps73
  go_wp2_with (first | (go_at_call 90; refine (isNaN_s _ _).mono ?_; rintro e w' ⟨rfl, hw⟩; rw [hw]) | rw [gtr_s])
  all_goals (go_ret; refine ⟨?_, rfl⟩; unfold cmpS; simp_all)
def orV (a b : Int) : Int := if a = 0 then b else a
set_option maxHeartbeats 1000000 in
theorem or2 (a b : Int) (blk cap : Nat) (w : World) (h0 : w.cell? ⟨blk, 0, none⟩ = some (.int .i64 a)) (h1 : w.cell? ⟨blk, 1, none⟩ = some (.int .i64 b)) : Calls Tryz.prog 72 #[.slice (some ⟨blk, 0, none⟩) 2 cap] w fun e w' => e = .returned (.int .i64 (orV a b)) ∧ w' = w := by
  go_enter Tryz.func72, Tryz.ntmps72
  go_wp2
  refine wp_loop_rounds 3 ?_
  rw [rounds_succ]
  go_wp2
  · go_ret
    refine ⟨?_, rfl⟩
    simp_all [orV]
  · rw [rounds_succ]
    go_wp2
    · go_ret
      refine ⟨?_, rfl⟩
      simp_all [orV]
    · rw [rounds_succ]
      go_wp2
      go_ret
      refine ⟨?_, rfl⟩
      simp_all [orV]
open Go.Sort Go.Shelf
def HidE (p : Prop) : Prop := p
theorem new_blk (W : World) (o : Obj) : (W.alloc o).heap[W.heap.size]? = some o := Array.getElem?_push_size
theorem new_cell0 (W : World) (a b : Value) : (W.alloc (.cells #[a, b] 3)).cell? ⟨W.heap.size, 0, none⟩ = some a := by
  rw [World.cell?, new_blk]; rfl
theorem new_cell1 (W : World) (a b : Value) : (W.alloc (.cells #[a, b] 3)).cell? ⟨W.heap.size, 1, none⟩ = some b := by
  rw [World.cell?, new_blk]; rfl
theorem two_push {α : Type} (h : Array α) (a b : α) : (h.push a).push b = h ++ #[a, b] := by
  rw [Array.push_eq_append, Array.push_eq_append, Array.append_assoc]; rfl
theorem two_at0 {α : Type} (h : Array α) (a b : α) : (h ++ #[a, b])[h.size]? = some a := by
  rw [Array.getElem?_append_right (Nat.le_refl _)]; simp
theorem two_at1 {α : Type} (h : Array α) (a b : α) : (h ++ #[a, b])[h.size + 1]? = some b := by
  rw [Array.getElem?_append_right (by omega)]; simp
set_option maxHeartbeats 1000000 in
theorem closureC (x y : ByteArray × Int) (W : World) : Calls Tryz.prog 71 #[.agg #[.string x.1, .int .i64 x.2], .agg #[.string y.1, .int .i64 y.2]] W fun e w' => e = .returned (.int .i64 (orV (cmpS x.1 y.1) (Lib.compareInt x.2 y.2))) ∧ ∃ q os', w' = grow (W.drewN q) os' := by
  go_enter Tryz.func71, Tryz.ntmps71
  go_wp2_with (first | (go_at_call 73; refine (compare_s _ _ _).mono ?_; rintro e w' ⟨rfl, rfl⟩) | (go_at_call 74; refine (compare_i _ _ _).mono ?_; rintro e w' ⟨rfl, rfl⟩))
  refine wp_region_still_tail 10 (show Tryz.prog.follows .mixedOrders = true by kernel_rfl) (by kernel_rfl) ?_
  simp only [List.take_succ_cons, List.take_zero, List.drop_succ_cons, List.drop_zero]
  generalize hW1 : World.mk _ _ _ _ _ = W1
  have e1 : W1 = grow (W.drewN 1) #[.cells #[Value.string x.1, Value.int IntKind.i64 x.2] 51, .cells #[Value.string y.1, Value.int IntKind.i64 y.2] 51] := by
    rw [← hW1]
    show World.mk ((W.heap.push _).push _) _ _ _ _ = World.mk (W.heap ++ #[_, _]) _ _ _ _
    rw [two_push]
    rfl
  have b0 : W1.heap[W.heap.size]? = some (.cells #[Value.string x.1, Value.int IntKind.i64 x.2] 51) := by rw [e1]; exact two_at0 _ _ _
  have b1 : W1.heap[W.heap.size + 1]? = some (.cells #[Value.string y.1, Value.int IntKind.i64 y.2] 51) := by rw [e1]; exact two_at1 _ _ _
  clear hW1
  replace e1 : HidE _ := e1
  have c0 : W1.cell? ⟨W.heap.size, 0, none⟩ = some (.string x.1) := by simp [World.cell?, b0]
  have c1 : W1.cell? ⟨W.heap.size, 1, none⟩ = some (.int .i64 x.2) := by simp [World.cell?, b0]
  have c2 : W1.cell? ⟨W.heap.size + 1, 0, none⟩ = some (.string y.1) := by simp [World.cell?, b1]
  have c3 : W1.cell? ⟨W.heap.size + 1, 1, none⟩ = some (.int .i64 y.2) := by simp [World.cell?, b1]
  clear b0 b1
  repeat still_step
  still_call (compare_s x.1 y.1 W1)
  repeat still_step
  still_call (compare_i x.2 y.2 W1)
  repeat still_step
  refine wpStill_nil ?_
  go_wp2_with (go_at_call 72; refine (or2 (cmpS x.1 y.1) (Lib.compareInt x.2 y.2) W1.heap.size _ _ (new_cell0 _ _ _) (new_cell1 _ _ _)).mono ?_; rintro e w' ⟨rfl, rfl⟩)
  go_ret
  refine ⟨rfl, ?_⟩
  have e2 : W1 = _ := e1
  rw [alloc_eq_grow, e2, grow_grow]
  exact ⟨1, _, rfl⟩
end Go.Proofs.YtnoeabmpdjpfaaaGreatDoor.Vc

/-
  DERIVED: THE SHELF's CONTRACTS AT THIS DUMP, IN PLAIN WORDS (tools/lay-plain.mjs out of 'TryzShelf.lean', which tools/lay-shelf.mjs wrote): THE SAME DECLARATIONS UNDER THE SAME NAMES: 'import', 'namespace', 'open', 'def', 'theorem' AND NOTHING ELSE: no command of the shelf's: FOR A HAND-IN. Each laying: the table of numbers ('.._ren') and one theorem, a field a fact of the dump's own or the kernel's comparison; each contract: ONE APPLICATION.
-/
namespace Go.Proofs
open Go.Shelf
def Tryz.sortC_ren : Go.Shelf.Ren := ⟨fun | 6 => 70 | 15 => 79 | 14 => 89 | 28 => 101 | 29 => 102 | 20 => 111 | 21 => 112 | 22 => 113 | 23 => 114 | 24 => 115 | 25 => 116 | 26 => 117 | 27 => 118 | 46 => 138 | 47 => 120 | 48 => 121 | 49 => 139 | 50 => 140 | 57 => 147 | n => n, fun | 22 => 47 | 24 => 51 | 25 => 139 | 3 => 3 | 39 => 144 | 0 => 0 | 53 => 157 | 55 => 159 | 4 => 4 | 46 => 151 | 45 => 150 | 50 => 114 | 5 => 5 | 9 => 9 | 66 => 174 | 70 => 178 | 76 => 188 | 77 => 189 | n => n, fun | n => n⟩
theorem Tryz.sortC : Go.Proofs.SlLaysF0.n6 Tryz.prog Tryz.sortC_ren := {
  mixed := by kernel_rfl
  f6 := ⟨Tryz.f70.name, by decide, Tryz.func70.trans (congrArg some (by kernel_rfl))⟩
  f14 := ⟨Tryz.f89.name, by decide, Tryz.func89.trans (congrArg some (by kernel_rfl))⟩
  f15 := Tryz.func79.trans (congrArg some (by kernel_rfl))
  f20 := ⟨Tryz.f111.name, by decide, Tryz.func111.trans (congrArg some (by kernel_rfl))⟩
  f21 := ⟨Tryz.f112.name, by decide, Tryz.func112.trans (congrArg some (by kernel_rfl))⟩
  f22 := ⟨Tryz.f113.name, by decide, Tryz.func113.trans (congrArg some (by kernel_rfl))⟩
  f23 := ⟨Tryz.f114.name, by decide, Tryz.func114.trans (congrArg some (by kernel_rfl))⟩
  f24 := ⟨Tryz.f115.name, by decide, Tryz.func115.trans (congrArg some (by kernel_rfl))⟩
  f25 := ⟨Tryz.f116.name, by decide, Tryz.func116.trans (congrArg some (by kernel_rfl))⟩
  f26 := ⟨Tryz.f117.name, by decide, Tryz.func117.trans (congrArg some (by kernel_rfl))⟩
  f27 := ⟨Tryz.f118.name, by decide, Tryz.func118.trans (congrArg some (by kernel_rfl))⟩
  f28 := Tryz.func101.trans (congrArg some (by kernel_rfl))
  f29 := Tryz.func102.trans (congrArg some (by kernel_rfl))
  f46 := ⟨Tryz.f138.name, by decide, Tryz.func138.trans (congrArg some (by kernel_rfl))⟩
  f47 := Tryz.func120.trans (congrArg some (by kernel_rfl))
  f48 := Tryz.func121.trans (congrArg some (by kernel_rfl))
  f49 := ⟨Tryz.f139.name, by decide, Tryz.func139.trans (congrArg some (by kernel_rfl))⟩
  f50 := ⟨Tryz.f140.name, by decide, Tryz.func140.trans (congrArg some (by kernel_rfl))⟩
  f57 := ⟨Tryz.f147.name, by decide, Tryz.func147.trans (congrArg some (by kernel_rfl))⟩
  t0 := Tryz.underlying0
  a0 := Tryz.isAgg0
  z0 := Tryz.sizeOf0
  v0 := Tryz.zeroValue0
  t3 := Tryz.underlying3
  a3 := Tryz.isAgg3
  z3 := Tryz.sizeOf3
  v3 := Tryz.zeroValue3
  t4 := Tryz.underlying4
  a4 := Tryz.isAgg4
  z4 := Tryz.sizeOf4
  v4 := Tryz.zeroValue4
  t5 := Tryz.underlying5
  a5 := Tryz.isAgg5
  z5 := Tryz.sizeOf5
  v5 := Tryz.zeroValue5
  t9 := Tryz.underlying9
  a9 := Tryz.isAgg9
  z9 := Tryz.sizeOf9
  v9 := Tryz.zeroValue9
  t22 := Tryz.underlying47
  a22 := Tryz.isAgg47
  z22 := Tryz.sizeOf47
  v22 := Tryz.zeroValue47
  t25 := Tryz.underlying139
  a25 := Tryz.isAgg139
  z25 := Tryz.sizeOf139
  v25 := Tryz.zeroValue139
  t39 := Tryz.underlying144
  a39 := Tryz.isAgg144
  z39 := Tryz.sizeOf144
  v39 := Tryz.zeroValue144
  t45 := Tryz.underlying150
  a45 := Tryz.isAgg150
  z45 := Tryz.sizeOf150
  v45 := Tryz.zeroValue150
  t46 := Tryz.underlying151
  a46 := Tryz.isAgg151
  z46 := Tryz.sizeOf151
  v46 := Tryz.zeroValue151
  t50 := Tryz.underlying114
  a50 := Tryz.isAgg114
  z50 := Tryz.sizeOf114
  v50 := Tryz.zeroValue114
  t53 := Tryz.underlying157
  a53 := Tryz.isAgg157
  z53 := Tryz.sizeOf157
  v53 := Tryz.zeroValue157
  t55 := Tryz.underlying159
  a55 := Tryz.isAgg159
  z55 := Tryz.sizeOf159
  v55 := Tryz.zeroValue159
  t66 := Tryz.underlying174
  a66 := Tryz.isAgg174
  z66 := Tryz.sizeOf174
  v66 := Tryz.zeroValue174
  t70 := Tryz.underlying178
  a70 := Tryz.isAgg178
  z70 := Tryz.sizeOf178
  v70 := Tryz.zeroValue178
  t76 := Tryz.underlying188
  a76 := Tryz.isAgg188
  z76 := Tryz.sizeOf188
  v76 := Tryz.zeroValue188
  t77 := Tryz.underlying189
  a77 := Tryz.isAgg189
  z77 := Tryz.sizeOf189
  v77 := Tryz.zeroValue189 }
end Go.Proofs

/- Children are put in order: the kit's contract of slices.SortFunc at structs, as a row of one's own memory. -/
set_option linter.unusedVariables false
set_option linter.unusedSimpArgs false
set_option maxRecDepth 100000
namespace Go.Proofs.YtnoeabmpdjpfaaaGreatDoor.Vc
open Go Go.Proofs Go.Sort Go.Shelf Go.Lib

instance : Inhabited Child := ⟨zChild⟩
def encC (c : Child) : List Value := [.string c.name, .int .i64 c.node]
def cfC (x y : Child) : Int := orV (cmpS x.name y.name) (Lib.compareInt x.node y.node)
/-- By name, then by number. -/
def ltC (x y : Child) : Bool := ltOf cfC x y
theorem ltC_iff (x y : Child) : ltC x y = true ↔ x.name.data.toList < y.name.data.toList ∨ (x.name = y.name ∧ x.node < y.node) := by
  have hd : ∀ b : ByteArray, b.toList = b.data.toList := fun b => ByteArray.toList_eq b
  have hs : cmpS x.name y.name = if x.name.data.toList < y.name.data.toList then -1 else if x.name = y.name then 0 else 1 := by
    unfold cmpS
    rw [bytesLess_eq, hd, hd]
    simp only [decide_eq_true_eq]
  show decide (orV (cmpS x.name y.name) (Lib.compareInt x.node y.node) < 0) = true ↔ _
  rw [hs, decide_eq_true_iff]
  by_cases h1 : x.name.data.toList < y.name.data.toList
  · rw [if_pos h1]
    refine ⟨fun _ => .inl h1, fun _ => ?_⟩
    rw [orV, if_neg (by decide)]
    decide
  · have hc : Lib.compareInt x.node y.node < 0 ↔ x.node < y.node := by
      unfold Lib.compareInt
      (repeat' split) <;> simp_all <;> omega
    by_cases h2 : x.name = y.name
    · rw [if_neg h1, if_pos h2, orV, if_pos rfl, hc]
      exact ⟨fun h => .inr ⟨h2, h⟩, fun h => h.elim (fun h => absurd h h1) (·.2)⟩
    · rw [if_neg h1, if_neg h2, orV, if_neg (by decide)]
      exact ⟨fun h => absurd h (by decide), fun h => h.elim (fun h => absurd h h1) fun h => absurd h.1 h2⟩
theorem bytes_tri (a b : ByteArray) : a.data.toList < b.data.toList ∨ a = b ∨ b.data.toList < a.data.toList := by
  by_cases h1 : a.data.toList < b.data.toList
  · exact .inl h1
  · by_cases h2 : b.data.toList < a.data.toList
    · exact .inr (.inr h2)
    · refine .inr (.inl ?_)
      have this : a.data.toList = b.data.toList := List.le_antisymm (List.not_lt.1 h2) (List.not_lt.1 h1)
      exact ByteArray.ext (Array.toList_inj.1 this)
theorem ltC_irrefl (x : Child) : ltC x x = false := by
  rw [Bool.eq_false_iff]
  intro h
  rcases (ltC_iff x x).1 h with h | ⟨_, h⟩
  · exact List.lt_irrefl _ h
  · omega
theorem ltC_trans (x y z : Child) (h1 : ltC x y = true) (h2 : ltC y z = true) : ltC x z = true := by
  rw [ltC_iff] at *
  rcases h1 with h1 | ⟨e1, h1⟩ <;> rcases h2 with h2 | ⟨e2, h2⟩
  · exact .inl (List.lt_trans h1 h2)
  · exact .inl (e2 ▸ h1)
  · exact .inl (e1 ▸ h2)
  · exact .inr ⟨e1.trans e2, by omega⟩
theorem ltC_anti (x y : Child) (h1 : ltC x y = false) (h2 : ltC y x = false) : x = y := by
  have g1 := (not_congr (ltC_iff x y)).1 (by simp [h1])
  have g2 := (not_congr (ltC_iff y x)).1 (by simp [h2])
  rcases bytes_tri x.name y.name with h | h | h
  · exact absurd (.inl h) g1
  · have : x.node = y.node := by
      rcases Int.lt_trichotomy x.node y.node with k | k | k
      · exact absurd (.inr ⟨h, k⟩) g1
      · exact k
      · exact absurd (.inr ⟨h.symm, k⟩) g2
    cases x; cases y
    simp_all
  · exact absurd (.inl h) g2
theorem swoC : SWO (ltOf cfC) where
  irrefl := ltC_irrefl
  trans := ltC_trans
  ntrans x y z h1 h2 := by
    show ltC x z = false
    have h1 : ltC x y = false := h1
    have h2 : ltC y z = false := h2
    rw [Bool.eq_false_iff]
    intro h
    cases h3 : ltC y x with
    | true => rw [ltC_trans y x z h3 h] at h2; cases h2
    | false =>
      have := ltC_anti x y h1 h3
      subst this
      rw [h] at h2; cases h2
def sortCh (cs : List Child) : List Child := cs.mergeSort fun x y => !(ltOf cfC) y x
theorem sortCh_perm (cs : List Child) : (sortCh cs).Perm cs := List.mergeSort_perm _ _
theorem sortCh_len (cs : List Child) : (sortCh cs).length = cs.length := (sortCh_perm cs).length_eq
theorem cmpLaysC (blk off size : Nat) (w : World) : CmpLays Tryz.prog 71 #[] encC 2 cfC blk off size w :=
  fun _ _ _ _ x y => closureC (x.name, x.node) (y.name, y.node) _

theorem flat_C (c : Child) : GV.flat (gChild c) = encC c := rfl
theorem els_C (cs : List Child) : Els 2 (cs.map gChild) := fun x hx => by
  obtain ⟨c, _, rfl⟩ := List.mem_map.1 hx
  exact ⟨gChild_ok c, gChild_sz c⟩
/-- The cells of these, one behind the other. -/
theorem flats_C (cs : List Child) {j : Nat} (hj : j < cs.length * 2) : (flats (cs.map gChild))[j]? = some (flatK encC 2 cs.toArray)[j]! := by
  have hi : j / 2 < cs.length := by omega
  have hx : (cs.map gChild)[j / 2]? = some (gChild cs[j / 2]) := by rw [List.getElem?_map, List.getElem?_eq_getElem hi]; rfl
  have hm : j % 2 < (encC cs[j / 2]).length := by show j % 2 < 2; omega
  have h := flats_at (els_C cs) hx (j % 2) _ (by rw [flat_C, List.getElem?_eq_getElem hm])
  rw [show j / 2 * 2 + j % 2 = j by omega] at h
  rw [h, get_flatK encC 2 cs.toArray j (by simpa using hj)]
  have e1 : cs.toArray[j / 2]! = cs[j / 2] := by
    rw [getElem!_pos cs.toArray (j / 2) (by simpa using hi)]
    simp
  rw [e1, getElem!_pos (encC cs[j / 2]) (j % 2) hm]
end Go.Proofs.YtnoeabmpdjpfaaaGreatDoor.Vc

/- slices.SortFunc at children, of one's own memory. -/
set_option linter.unusedVariables false
set_option linter.unusedSimpArgs false
set_option maxRecDepth 100000
namespace Go.Proofs.YtnoeabmpdjpfaaaGreatDoor.Vc
open Go Go.Proofs Go.Sort Go.Shelf Go.Lib

theorem sortC_spec (w : World) (v : Value) (cs : List Child) (m : PH) (hS : SlO m v 51 2 (cs.map gChild)) (hl : cs.length ≤ 1099511627776) :
    Spec Tryz.prog 70 [v, .func (.func 71) #[] #[]] m w fun rs m' => rs = [] ∧ SlO m' v 51 2 ((sortCh cs).map gChild) := by
  intro hm
  by_cases h0 : cs = []
  · subst h0
    have key : ∀ p cap, v = .slice p 0 cap → Calls Tryz.prog 70 #[v, .func (.func 71) #[] #[]] w fun e w' => e = .returned (.tuple #[]) ∧ w' = w := fun p cap e => by
      rw [e]; exact AnyF.slices_SortFunc_none Tryz.sortC p cap _ w
    have hv : ∃ p cap, v = .slice p 0 cap := by
      obtain ⟨_, ⟨h1, _⟩ | ⟨a, c, h1, _⟩⟩ := hS
      · exact ⟨none, 0, h1⟩
      · exact ⟨some a, c, h1⟩
    obtain ⟨p, cap, e⟩ := hv
    refine (key p cap e).mono fun e w' ⟨he, hw⟩ => ?_
    subst hw
    exact ⟨[], m, he, by simp, ⟨rfl, by simpa [sortCh] using hS⟩, hm, fun b hb => .inl hb, Kept.refl m w'⟩
  · obtain ⟨hels, ⟨_, h1⟩ | ⟨⟨b, o, sp⟩, c, rfl, hc, hs⟩⟩ := hS
    · exact absurd (by simpa using h1) h0
    have hlen : 0 < cs.length := List.length_pos_iff.2 h0
    rw [List.length_map] at hc
    obtain ⟨cl, hsp, hsz, hb, hrow⟩ := hs (by omega)
    simp only at hsp hsz hb hrow
    subst hsp
    rw [List.length_map]
    have hwb := hm b _ hb
    have hblk : b < w.heap.size := by
      rw [Array.getElem?_eq_some_iff] at hwb
      exact hwb.1
    have hH : HoldsK encC 2 w b o cs.toArray := fun j hj => by
      have hj' : j < cs.length * 2 := by simpa using hj
      have hcell := hrow j _ (flats_C cs hj')
      refine ⟨?_, ?_⟩
      · simp only [World.cell?, hwb]
        simpa using hcell
      · simp [World.frozen?, hwb]
    have hcon := AnyQ.slices_SortFunc Tryz.sortC 2 Tryz.isAgg51 Tryz.sizeOf51 encC (fun _ => rfl) (fun x v hv => by simp [encC] at hv; rcases hv with rfl | rfl <;> rfl) cfC swoC 71 #[] b o c cs.toArray w (enters_of Tryz.func71 (by kernel_rfl) rfl) (cmpLaysC b o _ w) hH hblk (by simp; omega)
    have hcon : Calls Tryz.prog 70 #[.slice (some ⟨b, o, none⟩) cs.length c, .func (.func 71) #[] #[]] w fun e w' => e = .returned (.tuple #[]) ∧ ∃ d' n os, PermIn 0 cs.toArray.size cs.toArray d' ∧ SortedIn (ltOf cfC) 0 cs.toArray.size d' ∧ w' = sortWorldK encC 2 w b o n d' os := hcon
    refine hcon.mono fun e w' ⟨he, d', n, os, hp, hso, hw⟩ => ?_
    have hd' : d'.toList = sortCh cs := by
      have := sorted_unique_holds swoC ltC_anti cs.toArray d' (by simpa using hp) (by simpa using hso)
      simpa [sortCh] using this
    have hsz' : d'.size = cs.length := by rw [← Array.length_toList, hd', sortCh_len]
    generalize hF : flatK encC 2 d' = F at *
    have hFs : F.size = cs.length * 2 := by rw [← hF, size_flatK, hsz']
    have hheap : w'.heap = (w.heap.modify b (onCells (putCells id o F))) ++ os := by rw [hw, ← hF]; rfl
    have hwb' : w'.heap[b]? = some (.cells (putCells id o F cl) 51 (0, 0)) := by
      rw [hheap, Array.getElem?_append_left (by simpa using hblk), Array.getElem?_modify, if_pos rfl, hwb]
      rfl
    refine ⟨[], one b (.cells (putCells id o F cl) 51 (0, 0)), he, by simp, ⟨rfl, els_C _, .inr ⟨⟨b, o, none⟩, c, by rw [List.length_map, sortCh_len], by rw [List.length_map, sortCh_len]; exact hc, fun _ => ⟨putCells id o F cl, rfl, by simp only [putCells, Array.size_mapIdx]; exact hsz, by simp [one], fun j v hj => ?_⟩⟩⟩, fun k x hk => ?_, fun k hk => ?_, ?_⟩
    · have hjl : j < (sortCh cs).length * 2 := by
        have := List.getElem?_eq_some_iff.1 hj
        have h2 := this.1
        rw [flats_len (els_C _), List.length_map] at h2
        exact h2
      rw [flats_C _ hjl] at hj
      rw [sortCh_len] at hjl
      have hj : F[j]! = v := by
        rw [← hF, show d' = (sortCh cs).toArray by rw [← hd', Array.toArray_toList]]
        exact Option.some.inj hj
      have hcell : ∃ x, cl[o + j]? = some x := by
        have := hrow j _ (flats_C cs hjl)
        exact ⟨_, this⟩
      obtain ⟨x, hx⟩ := hcell
      simp only [putCells]
      rw [Array.getElem?_mapIdx, hx, Option.map_some, if_pos ⟨by omega, by omega⟩, show o + j - o = j by omega, hj]
      rfl
    · simp only [one] at hk
      split at hk
      · rename_i e; subst e; cases hk; exact hwb'
      · cases hk
    · simp only [one] at hk
      split at hk
      · rename_i e; subst e; exact .inl (by rw [hb]; simp)
      · exact absurd rfl hk
    · refine ⟨by rw [hw]; rfl, by rw [hw]; rfl, by rw [hw]; rfl, by rw [hheap]; simp, fun k hk hmk => ?_⟩
      have hkb : b ≠ k := fun e => by subst e; rw [hb] at hmk; cases hmk
      rw [hheap, Array.getElem?_append_left (by simpa using hk), Array.getElem?_modify, if_neg hkb]
end Go.Proofs.YtnoeabmpdjpfaaaGreatDoor.Vc

/- The code of some functions of the program, its types resolved: printed by a program of this claim. -/
set_option linter.unusedVariables false
set_option maxRecDepth 100000
namespace Go.Proofs.YtnoeabmpdjpfaaaGreatDoor.Vc
open Go Go.Proofs

abbrev f_tree_Tree_Children : Nat := 41
def c_tree_Tree_Children_L0 : Cd :=
 (.seq (.rg [⟨none, [(some 28, .nxt (.t 27)), (some 29, .ext (.t 28) 0)]⟩] [0, 5, 27, 29])
 (.seq (.ite (.t 29)
 .skip
 (.exit 0))
 (.block 1 (.seq (.rg [⟨none, [(some 30, .ent (.t 27)), (some 31, .ext (.t 30) 0), (some 6, .mv (.t 31))]⟩] [0, 5, 6, 27])
 (.rg [⟨none, [(some 32, .mv (.t 5)), (some 33, .mv (.t 0)), (some 34, .nilc (.t 33)), (some 35, .fldA (.t 34) 0 0), (some 36, .ld (.t 35) 1 false), (some 37, .mv (.t 6)), (some 38, .mlk (some .i64) (.t 36) (.t 37) (.pointer none) false), (some 39, .nilc (.t 38)), (some 40, .fldA (.t 39) 0 0), (some 41, .fldA (.t 40) 1 1), (some 42, .ld (.t 41) 1 false), (some 43, .mv (.t 6)), (some 44, .bld (.c (.s (.string ⟨#[]⟩)) (.c (.s (.int .i64 0)) .u)) [(0, (.t 42)), (1, (.t 43))]), (some 45, .bldS 51 2 (.c (.s (.string ⟨#[]⟩)) (.c (.s (.int .i64 0)) .u)) [(.t 44)]), (some 46, .app 51 2 24 (.c (.s (.string ⟨#[]⟩)) (.c (.s (.int .i64 0)) .u)) (.t 32) (.t 45)), (some 5, .mv (.t 46))]⟩] [0, 5, 27])))))
def c_tree_Tree_Children : Cd :=
 (.seq (.rg [⟨none, [(some 4, .mv (.c (.slice none 0 0)))]⟩] [0, 1])
 (.seq (.seq (.rg [⟨none, [(some 7, .mv (.t 0)), (some 8, .call 30 [(.t 7)]), (some 9, .mv (.t 8))]⟩, ⟨some (9, false), [(some 10, .mv (.t 0)), (some 11, .nilc (.t 10)), (some 12, .fldA (.t 11) 0 0), (some 13, .ld (.t 12) 1 false), (some 14, .mv (.t 1)), (some 15, .mlk (some .i64) (.t 13) (.t 14) (.pointer none) false), (some 16, .eqA false 86 (.t 15) (.c (.pointer none)))]⟩, ⟨none, [(some 17, .pick (.t 9) (.c (.bool true)) (.t 16))]⟩] [0, 1, 17])
 (.ite (.t 17)
 (.seq (.rg [⟨none, [(some 4, .mv (.c (.slice none 0 0)))]⟩] [4])
 .ret)
 .skip))
 (.seq (.rg [⟨none, [(some 5, .mv (.c (.slice none 0 0)))]⟩] [0, 1, 5])
 (.seq (.seq (.rg [⟨none, [(some 18, .mv (.t 0)), (some 19, .nilc (.t 18)), (some 20, .fldA (.t 19) 0 0), (some 21, .ld (.t 20) 1 false), (some 22, .mv (.t 1)), (some 23, .mlk (some .i64) (.t 21) (.t 22) (.pointer none) false), (some 24, .nilc (.t 23)), (some 25, .fldA (.t 24) 2 3), (some 26, .ld (.t 25) 1 false), (some 27, .rng (some .i64) (.t 26))]⟩] [0, 5, 27])
 (.block 0 (.loop c_tree_Tree_Children_L0)))
 (.seq (.rg [⟨none, [(some 47, .mv (.t 5)), (some 48, .call 70 [(.t 47), (.c (.func (.func 71) #[] #[]))])]⟩] [5])
 (.seq (.rg [⟨none, [(some 49, .mv (.t 5)), (some 4, .mv (.t 49))]⟩] [4])
 .ret))))))
theorem k_tree_Tree_Children : Ok Tryz.prog 41 c_tree_Tree_Children 50 [] [.tmp 4] := Ok.mk' Tryz.func41 (by kernel_rfl) (by kernel_rfl) (by kernel_rfl)

end Go.Proofs.YtnoeabmpdjpfaaaGreatDoor.Vc

/- Children: the nodes beneath a node, by name and number. -/
set_option linter.unusedVariables false
set_option linter.unusedSimpArgs false
set_option maxRecDepth 100000
namespace Go.Proofs.YtnoeabmpdjpfaaaGreatDoor.Vc
open Go Go.Proofs

def childOf (T : PT) (c : Int) : Child := ⟨((T.get c).map fun y => y.name).getD ⟨#[]⟩, c⟩
theorem childOf_get {T : PT} {c : Int} {y : PN} (h : T.get c = some y) : childOf T c = ⟨y.name, c⟩ := by rw [childOf, h]; rfl
theorem not_ltC {x y : Child} (h : (!(ltOf cfC) y x) = true) : ltC y x = false := by
  unfold ltC
  simpa using h
theorem sortCh_sorted (a : List Child) : (sortCh a).Pairwise fun x y => (!(ltOf cfC) y x) = true := by
  refine List.pairwise_mergeSort (le := fun x y => !(ltOf cfC) y x) (fun x y z h1 h2 => ?_) (fun x y => ?_) a
  · have := swoC.ntrans z y x (not_ltC h2) (not_ltC h1)
    simpa using this
  · cases h1 : (ltOf cfC) y x with
    | false => simp
    | true =>
      cases h2 : (ltOf cfC) x y with
      | false => simp
      | true =>
        have := swoC.trans x y x h2 h1
        rw [swoC.irrefl] at this; cases this
theorem sortCh_uniq {a b : List Child} (h : a.Perm b) : sortCh a = sortCh b := by
  refine List.Perm.eq_of_pairwise (le := fun x y => (!(ltOf cfC) y x) = true) ?_ (sortCh_sorted a) (sortCh_sorted b) ((sortCh_perm a).trans (h.trans (sortCh_perm b).symm))
  intro x y _ _ h1 h2
  exact ltC_anti x y (not_ltC h2) (not_ltC h1)
/-- What Children tells. -/
def childA (T : PT) (n : Int) : List Child := sortCh (((T.get n).map PN.kids).getD [] |>.map (childOf T))
theorem childA_none {T : PT} {n : Int} (h : T.get n = none) : childA T n = [] := by rw [childA, h]; simp [sortCh]
theorem childA_get {T : PT} {n : Int} {x : PN} (h : T.get n = some x) : childA T n = sortCh (x.kids.map (childOf T)) := by rw [childA, h]; rfl

theorem Children_spec {w : World} {u : PH} {L : Lay} {T : PT} (hu : u.le w) (hT : TM u L T) (n : Int) (hkd : T.kidsOk) (hg : VGood T.view) (hl : T.nodes.length ≤ 1099511627776) :
    Spec Tryz.prog f_tree_Tree_Children [ptr (L .t), .int .i64 n] PH.no w fun rs m' => ∃ v, rs = [.s v] ∧ SlO m' v 51 2 ((childA T n).map gChild) := by
  refine spec_of k_tree_Tree_Children [.g (.s (ptr (L .t))), .g (.s (.int .i64 n))] (by simp) (by simp [AV.ok, GV.ok, Value.oneCell', ptr]) ?_
  have hk : ∀ {l : List PH}, KN (⟨Tryz.prog, 50, w, PH.no⟩ : Ctx).u0 l u := kn_u hu
  simp (maxSteps := 2000000) only [c_tree_Tree_Children, vc_seq, vc_rg, thenQ_n, kKeep_eq, segs_nil, segs_n, ops_nil, ops_cons, vcOp, ev, look, put_mk, keep_mk, keepL, Value.oneCell', cond_true, Nat.reduceEqDiff, ↓reduceIte, reduceCtorEq, Nat.zero_add, initF, initP, ptr]
  refine call_is _ [.s (.bool false)] rfl rfl (fun w' vs hv hw => ?_) ?_
  · obtain ⟨vs, rfl, _, hv⟩ := argsV_g hv
    obtain rfl := argsV_nil hv
    intro _
    exact none_spec (fun b o h => hw b o (by rw [u0_no]; exact hu b o h)) hT
  simp (maxSteps := 2000000) only [retS, segs_g, ops_nil, ops_cons, vcOp, ev, look, put_mk, ↓reduceIte, reduceCtorEq, Nat.add_zero, ↓br_ff]
  refine ld_of _ (hT.s_map hk) rfl ?_
  simp (maxSteps := 2000000) only [ops_cons, vcOp, ev, look, put_mk, Nat.reduceEqDiff, ↓reduceIte, reduceCtorEq]
  refine hT.lk hk n ?_
  cases hx : T.get n with
  | none =>
    simp (maxSteps := 2000000) only [ops_cons, vcOp, ev, look, put_mk, Value.oneCell', cond_true, ↓reduceIte, nptr_none]
    refine eq_of eqNode0 ?_
    simp (maxSteps := 2000000) only [vc_ret, vc_seq, vc_rg, vc_ite, thenQ_n, thenQ_r, kKeep_eq, finQ_r, segs_nil, segs_n, ops_nil, ops_cons, vcOp, ev, look, put_mk, keep_mk, keepL, Value.oneCell', cond_true, Nat.reduceEqDiff, ↓reduceIte, reduceCtorEq, ↓br_tt, ↓br_ft, Bool.bne_false]
    exact fin_m (rs := [.s (.slice none 0 0)]) PH.no rfl (fun _ _ h => h) ⟨_, rfl, by rw [childA_none hx]; exact ⟨fun x hx => by simp at hx, .inl ⟨rfl, rfl⟩⟩⟩
  | some x =>
    simp (maxSteps := 2000000) only [ops_cons, vcOp, ev, look, put_mk, Value.oneCell', cond_true, ↓reduceIte, nptr_some]
    refine eq_of (eqNode _) ?_
    simp (maxSteps := 2000000) only [vc_skip, vc_seq, vc_rg, vc_ite, thenQ_n, kKeep_eq, segs_nil, segs_n, ops_nil, ops_cons, vcOp, ev, look, put_mk, keep_mk, keepL, Value.oneCell', cond_true, Nat.reduceEqDiff, ↓reduceIte, reduceCtorEq, Nat.add_zero, ↓br_ft, Bool.bne_false]
    refine ld_of _ (hT.s_map hk) rfl ?_
    simp (maxSteps := 2000000) only [ops_cons, vcOp, ev, look, put_mk, Nat.reduceEqDiff, ↓reduceIte, reduceCtorEq]
    refine hT.lk hk n ?_
    rw [hx]
    simp (maxSteps := 2000000) only [ops_cons, vcOp, ev, look, put_mk, ↓reduceIte, Nat.zero_add, nptr_some]
    refine ld_of _ (hT.s_node hk hx).2.2.2.1 rfl ?_
    simp (maxSteps := 2000000) only [ops_cons, vcOp, ev, look, put_mk, ↓reduceIte]
    obtain ⟨ok, idsV, h1, h2⟩ := hT.at (.kb n) ⟨x, hx⟩
    have hmap : MapI (some .i64) ok (rawK x.kids) := h2 x hx
    have hsee : ∀ {m : PH}, SeenO ⟨Tryz.prog, 50, w, PH.no⟩ [] m (L (.kb n)) ok := fun {m} => kn_seen hk h1
    have hkf := kids_few hkd hx
    refine ⟨ok, _, hsee, hmap, fun r it hit hdr => ?_⟩
    simp (maxSteps := 2000000) only [uni_no_r, vc_block, thenQ_n, kKeep_eq, segs_nil, ops_nil, look, put_mk, keep_mk, keepL, Nat.reduceEqDiff, ↓reduceIte, reduceCtorEq]
    refine vc_loop (ι := List Int × Value × PH × Obj) (fun q => ⟨[(0, .g (.s (.pointer (some ⟨L .t, 0, none⟩)))), (5, .g (.s q.2.1)), (27, .g (.s (.pointer (some ⟨r, 0, none⟩))))], [], [], uni (one r q.2.2.2) q.2.2.1⟩)
      (fun q => IterM q.2.2.2 ok (L (.kb n)) (rawK q.1) ∧ SlO q.2.2.1 q.2.1 51 2 ((q.1.map (childOf T)).map gChild) ∧ dis (one r q.2.2.2) q.2.2.1 ∧ ∀ c ∈ q.1, c ∈ x.kids) (fun q => x.kids.length - q.1.length) ([], .slice none 0 0, PH.no, it) ⟨hit, ⟨fun x hx => by simp at hx, .inl ⟨rfl, by simp⟩⟩, dis_no_r _, by simp⟩ (ge_of ?_ ?_ rfl rfl ?_) ?_
    · simp [frIn, look]
    · simp [pvIn, look]
    · simp [uni_no_r]
    clear hit hdr
    rintro ⟨ks, v, mv, it⟩ ⟨hI, hS, hd, hsub⟩
    simp only at hI hS hd hsub
    have hlk := iter_nodup hI hmap (hkd.nod n x hx)
    generalize hQ : loopQ _ _ _ _ _ = Q
    simp (maxSteps := 2000000) only [c_tree_Tree_Children_L0, vc_seq, vc_rg, segs_n, ops_cons, vcOp, ev, look, Nat.reduceEqDiff, ↓reduceIte, reduceCtorEq, gChild_zero]
    refine ⟨it, _, ok, _, _, _, uni_one_self _ _ _, hsee, hmap, hI, fun hp => ?_, fun p it' hp hps hit' => ?_⟩
    · simp (maxSteps := 2000000) only [List.getElem?_cons_zero, vc_exit, vc_seq, vc_ite, thenQ_n, thenQ_e, kKeep_eq, segs_nil, ops_nil, ops_cons, vcOp, ev, look, put_mk, keep_mk, keepL, Nat.reduceEqDiff, ↓reduceIte, reduceCtorEq, ↓br_ft]
      subst hQ
      simp (maxSteps := 2000000) only [vc_seq, vc_rg, thenQ_n, blockQ_e, loopQ_e, segs_n, ops_cons, vcOp, ev, look, put_mk, ↓reduceIte, reduceCtorEq]
      have hk2 := rawK_perm hp
      refine call_with mv (one r it) (dOk_spec rfl) rfl (uni_comm hd) (dis_comm hd) (Q := fun rs m' => rs = [] ∧ SlO m' v 51 2 ((sortCh (ks.map (childOf T))).map gChild)) (fun w' vs hvv _ _ => ?_) fun rs m4 _ hq hd4 => ?_
      · obtain ⟨vs, rfl, _, hvv⟩ := argsV_g hvv
        obtain ⟨vs, rfl, _, hvv⟩ := argsV_g hvv
        obtain rfl := argsV_nil hvv
        exact sortC_spec w' v _ mv hS (by rw [List.length_map]; omega)
      obtain ⟨rfl, hS4⟩ := hq
      simp (maxSteps := 2000000) only [retS, vc_ret, vc_seq, vc_rg, thenQ_n, kKeep_eq, finQ_r, segs_nil, segs_n, ops_nil, ops_cons, vcOp, ev, look, put_mk, keep_mk, keepL, Nat.reduceEqDiff, ↓reduceIte, reduceCtorEq]
      exact fin_m (rs := [.s v]) m4 rfl (sub_uni_l _ _) ⟨v, rfl, by rw [childA_get hx, ← sortCh_uniq (hk2.map _)]; exact hS4⟩
    · obtain ⟨c, hc, rfl⟩ := mem_rawK hp
      obtain ⟨hc0, y, hy⟩ := kids_get hkd hg hx c hc
      have hit2 : IterM it' ok (L (.kb n)) (rawK (ks ++ [c])) := by
        have e : rawK (ks ++ [c]) = rawK ks ++ [(.int .i64 c, .int .i64 1)] := by simp [rawK]
        rw [e]; exact hit'
      have hlen2 := iter_nodup hit2 hmap (hkd.nod n x hx)
      simp only [List.length_append, List.length_cons, List.length_nil] at hlen2
      simp (maxSteps := 2000000) only [List.getElem?_cons_zero, vc_skip, vc_seq, vc_block, vc_rg, vc_ite, thenQ_n, kKeep_eq, segs_nil, segs_n, ops_nil, ops_cons, vcOp, ev, look, put_mk, keep_mk, keepL, Nat.reduceEqDiff, ↓reduceIte, reduceCtorEq, ↓br_tt]
      refine ⟨it', _, ok, _, _, _, _, .inl (upd_self _ _ _), hsee, hmap, hit', ?_⟩
      simp (maxSteps := 2000000) only [List.getElem?_cons_zero, vc_rg, thenQ_n, kKeep_eq, segs_nil, segs_n, ops_nil, ops_cons, vcOp, ev, look, put_mk, keep_mk, keepL, Nat.reduceEqDiff, ↓reduceIte, reduceCtorEq, Nat.add_zero]
      rw [uni_one_upd]
      refine ld_of _ (hT.s_map hk) rfl ?_
      simp (maxSteps := 2000000) only [ops_cons, vcOp, ev, look, put_mk, Nat.reduceEqDiff, ↓reduceIte, reduceCtorEq]
      refine hT.lk hk c ?_
      rw [hy]
      simp (maxSteps := 2000000) only [ops_cons, vcOp, ev, look, put_mk, ↓reduceIte, Nat.zero_add, Nat.add_zero, nptr_some]
      refine ld_of _ (hT.s_node hk hy).2.1 rfl ?_
      simp (maxSteps := 2000000) only [ops_cons, vcOp, ev, evL, gvL, look, updL, put_mk, rowE, GV.getT, GV.same, Nat.reduceEqDiff, ↓reduceIte, reduceCtorEq, Nat.zero_add, Bool.and_true, Bool.true_and, true_and, and_true, List.map_cons, List.map_nil, Option.map_some, szAll, List.length_cons, List.length_nil, List.drop_zero, List.take_succ_cons, List.take_zero, GV.bldT, GV.bldC, same_int, gChild_sz, gChild_get0, gChild_set0, gChild_get1, gChild_set1]
      have hd' := dis_one_of (b := it') hd
      refine ⟨⟨rfl, rfl⟩, app_of rfl rfl mv (one r it') ((ks.map (childOf T)).map gChild) hS (uni_comm hd') (dis_comm hd') (by simp only [List.length_map, List.length_cons, List.length_nil]; omega) fun v' u' hv' hs' hd2 => ?_⟩
      simp (maxSteps := 2000000) only [blockQ_n, kKeep_eq, segs_nil, ops_nil, ops_cons, vcOp, ev, look, put_mk, keep_mk, keepL, Nat.reduceEqDiff, ↓reduceIte, reduceCtorEq]
      subst hQ; simp only [loopQ_n]
      refine ⟨(ks ++ [c], v', u', it'), ⟨hit2, ?_, dis_comm hd2, fun d hd => ?_⟩, ?_, ge_of ?_ ?_ rfl rfl (uni_comm (dis_comm hd2))⟩
      · simp only [List.map_append, List.map_cons, List.map_nil, childOf_get hy]
        exact hs'
      · rcases List.mem_append.1 hd with h | h
        · exact hsub d h
        · simp only [List.mem_singleton] at h; subst h; exact hc
      · simp only [List.length_append, List.length_cons, List.length_nil]; omega
      · simp [frIn, look]
      · simp [pvIn, look]
end Go.Proofs.YtnoeabmpdjpfaaaGreatDoor.Vc

/- The code of some functions of the program, its types resolved: printed by a program of this claim. -/
set_option linter.unusedVariables false
set_option maxRecDepth 100000
namespace Go.Proofs.YtnoeabmpdjpfaaaGreatDoor.Vc
open Go Go.Proofs

abbrev f_path_List : Nat := 15
def c_path_List : Cd :=
 (.seq (.rg [⟨none, [(some 4, .mv (.c (.slice none 0 0))), (some 5, .mv (.c (.int .i64 0)))]⟩] [0, 1])
 (.seq (.rg [⟨none, [(some 9, .mv (.t 0)), (some 10, .mv (.t 1)), (some 11, .call 11 [(.t 9), (.t 10)]), (some 8, .mv (.t 11)), (some 12, .ext (.t 8) 0), (some 13, .ext (.t 8) 1), (some 6, .mv (.t 12)), (some 7, .mv (.t 13))]⟩] [0, 6, 7])
 (.seq (.seq (.rg [⟨none, [(some 14, .mv (.t 7)), (some 15, .bin .neq (.t 14) (.c (.int .i64 0)))]⟩] [0, 6, 7, 15])
 (.ite (.t 15)
 (.seq (.rg [⟨none, [(some 16, .mv (.t 7)), (some 4, .mv (.c (.slice none 0 0))), (some 5, .mv (.t 16))]⟩] [4, 5])
 .ret)
 .skip))
 (.seq (.rg [⟨none, [(some 17, .mv (.t 0)), (some 18, .mv (.t 6)), (some 19, .call 41 [(.t 17), (.t 18)]), (some 4, .mv (.t 19)), (some 5, .mv (.c (.int .i64 0)))]⟩] [4, 5])
 .ret))))
theorem k_path_List : Ok Tryz.prog 15 c_path_List 20 [] [.tmp 4, .tmp 5] := Ok.mk' Tryz.func15 (by kernel_rfl) (by kernel_rfl) (by kernel_rfl)

abbrev f_path_Attrs : Nat := 16
def c_path_Attrs : Cd :=
 (.seq (.rg [⟨none, [(some 4, .mv (.c (.slice none 0 0))), (some 5, .mv (.c (.int .i64 0)))]⟩] [0, 1])
 (.seq (.rg [⟨none, [(some 11, .mv (.t 0)), (some 12, .mv (.t 1)), (some 13, .call 11 [(.t 11), (.t 12)]), (some 10, .mv (.t 13)), (some 14, .ext (.t 10) 0), (some 15, .ext (.t 10) 1), (some 6, .mv (.t 14)), (some 7, .mv (.t 15))]⟩] [0, 6, 7])
 (.seq (.seq (.rg [⟨none, [(some 16, .mv (.t 7)), (some 17, .bin .neq (.t 16) (.c (.int .i64 0)))]⟩] [0, 6, 7, 17])
 (.ite (.t 17)
 (.seq (.rg [⟨none, [(some 18, .mv (.t 7)), (some 4, .mv (.c (.slice none 0 0))), (some 5, .mv (.t 18))]⟩] [4, 5])
 .ret)
 .skip))
 (.seq (.rg [⟨none, [(some 20, .mv (.t 0)), (some 21, .mv (.t 6)), (some 22, .call 12 [(.t 20), (.t 21)]), (some 19, .mv (.t 22)), (some 23, .ext (.t 19) 0), (some 24, .ext (.t 19) 1), (some 8, .new 32 (.c (.s (.int .i64 0)) (.c (.s (.int .i64 0)) (.c (.s (.string ⟨#[]⟩)) (.c (.s (.slice none 0 0)) .u))))), (none, .st (.t 8) (.t 23) 4), (some 9, .mv (.t 24))]⟩] [8])
 (.seq (.rg [⟨none, [(some 25, .fldA (.t 8) 3 3), (some 26, .ld (.t 25) 1 false), (some 4, .mv (.t 26)), (some 5, .mv (.c (.int .i64 0)))]⟩] [4, 5])
 .ret)))))
theorem k_path_Attrs : Ok Tryz.prog 16 c_path_Attrs 27 [] [.tmp 4, .tmp 5] := Ok.mk' Tryz.func16 (by kernel_rfl) (by kernel_rfl) (by kernel_rfl)

abbrev f_law20_PathOwn : Nat := 4
def c_law20_PathOwn_L0 : Cd :=
 (.seq (.rg [⟨none, [(some 35, .bin .lss (.t 34) (.t 33))]⟩] [1, 5, 6, 7, 33, 34, 35])
 (.seq (.ite (.t 35)
 .skip
 (.exit 0))
 (.seq (.block 1 (.seq (.rg [⟨none, [(some 36, .mv (.t 34)), (some 9, .mv (.t 36))]⟩] [1, 5, 6, 7, 9, 33, 34])
 (.rg [⟨none, [(some 37, .mv (.t 7)), (some 38, .mv (.t 9)), (some 39, .idxS (.t 37) (.t 38) 1), (none, .st (.t 39) (.c (.string ⟨#[115, 112, 111, 105, 108, 116]⟩)) 1)]⟩] [1, 5, 6, 7, 33, 34])))
 (.rg [⟨none, [(some 40, .bin .add (.t 34) (.c (.int .i64 1))), (some 34, .mv (.t 40))]⟩] [1, 5, 6, 7, 33, 34]))))
def c_law20_PathOwn_L1 : Cd :=
 (.seq (.rg [⟨none, [(some 50, .bin .lss (.t 49) (.t 48))]⟩] [1, 5, 6, 10, 48, 49, 50])
 (.seq (.ite (.t 50)
 .skip
 (.exit 2))
 (.seq (.block 3 (.seq (.rg [⟨none, [(some 51, .mv (.t 49)), (some 12, .mv (.t 51))]⟩] [1, 5, 6, 10, 12, 48, 49])
 (.rg [⟨none, [(some 52, .mv (.t 10)), (some 53, .mv (.t 12)), (some 54, .idxS (.t 52) (.t 53) 2), (some 55, .fldA (.t 54) 1 1), (none, .st (.t 55) (.c (.int .i64 (-9))) 1)]⟩] [1, 5, 6, 10, 48, 49])))
 (.rg [⟨none, [(some 56, .bin .add (.t 49) (.c (.int .i64 1))), (some 49, .mv (.t 56))]⟩] [1, 5, 6, 10, 48, 49]))))
def c_law20_PathOwn_L2 : Cd :=
 (.seq (.rg [⟨none, [(some 66, .bin .lss (.t 65) (.t 64))]⟩] [5, 6, 13, 64, 65, 66])
 (.seq (.ite (.t 66)
 .skip
 (.exit 4))
 (.seq (.block 5 (.seq (.rg [⟨none, [(some 67, .mv (.t 65)), (some 15, .mv (.t 67))]⟩] [5, 6, 13, 15, 64, 65])
 (.rg [⟨none, [(some 68, .mv (.t 13)), (some 69, .mv (.t 15)), (some 70, .idxS (.t 68) (.t 69) 2), (some 71, .fldA (.t 70) 1 1), (none, .st (.t 71) (.c (.string ⟨#[115, 112, 111, 105, 108, 116]⟩)) 1)]⟩] [5, 6, 13, 64, 65])))
 (.rg [⟨none, [(some 72, .bin .add (.t 65) (.c (.int .i64 1))), (some 65, .mv (.t 72))]⟩] [5, 6, 13, 64, 65]))))
def c_law20_PathOwn : Cd :=
 (.seq (.rg [⟨none, [(some 4, .mv (.c (.bool false)))]⟩] [0, 1])
 (.seq (.rg [⟨none, [(some 17, .mv (.t 0)), (some 18, .call 6 [(.t 17)]), (some 16, .mv (.t 18)), (some 19, .ext (.t 16) 0), (some 20, .ext (.t 16) 1), (some 5, .mv (.t 19)), (some 6, .mv (.t 20))]⟩] [1, 5, 6])
 (.seq (.seq (.rg [⟨none, [(some 21, .call 7 []), (some 22, .un .not (.t 21)), (some 23, .mv (.t 22))]⟩, ⟨some (23, false), [(some 24, .mv (.t 5)), (some 25, .eqA false 23 (.t 24) (.c (.pointer none)))]⟩, ⟨none, [(some 26, .pick (.t 23) (.c (.bool true)) (.t 25))]⟩] [1, 5, 6, 26])
 (.ite (.t 26)
 (.seq (.rg [⟨none, [(some 4, .mv (.c (.bool false)))]⟩] [4])
 .ret)
 .skip))
 (.seq (.rg [⟨none, [(some 28, .mv (.t 1)), (some 29, .call 14 [(.t 28)]), (some 27, .mv (.t 29)), (some 30, .ext (.t 27) 0), (some 31, .ext (.t 27) 1), (some 7, .mv (.t 30)), (some 8, .mv (.t 31))]⟩] [1, 5, 6, 7])
 (.seq (.seq (.rg [⟨none, [(none, .gh), (some 32, .mv (.t 7)), (some 33, .len (.t 32)), (some 34, .mv (.c (.int .i64 0)))]⟩] [1, 5, 6, 7, 33, 34])
 (.block 0 (.loop c_law20_PathOwn_L0)))
 (.seq (.rg [⟨none, [(some 42, .mv (.t 5)), (some 43, .mv (.t 1)), (some 44, .call 15 [(.t 42), (.t 43)]), (some 41, .mv (.t 44)), (some 45, .ext (.t 41) 0), (some 46, .ext (.t 41) 1), (some 10, .mv (.t 45)), (some 11, .mv (.t 46))]⟩] [1, 5, 6, 10])
 (.seq (.seq (.rg [⟨none, [(none, .gh), (some 47, .mv (.t 10)), (some 48, .len (.t 47)), (some 49, .mv (.c (.int .i64 0)))]⟩] [1, 5, 6, 10, 48, 49])
 (.block 2 (.loop c_law20_PathOwn_L1)))
 (.seq (.rg [⟨none, [(some 58, .mv (.t 5)), (some 59, .mv (.t 1)), (some 60, .call 16 [(.t 58), (.t 59)]), (some 57, .mv (.t 60)), (some 61, .ext (.t 57) 0), (some 62, .ext (.t 57) 1), (some 13, .mv (.t 61)), (some 14, .mv (.t 62))]⟩] [5, 6, 13])
 (.seq (.seq (.rg [⟨none, [(none, .gh), (some 63, .mv (.t 13)), (some 64, .len (.t 63)), (some 65, .mv (.c (.int .i64 0)))]⟩] [5, 6, 13, 64, 65])
 (.block 4 (.loop c_law20_PathOwn_L2)))
 (.seq (.rg [⟨none, [(some 73, .mv (.t 5)), (some 74, .call 8 [(.t 73)]), (some 75, .mv (.t 6)), (some 76, .call 18 [(.t 75)]), (some 77, .call 17 [(.t 74), (.t 76)]), (some 4, .mv (.t 77))]⟩] [4])
 .ret))))))))))
theorem k_law20_PathOwn : Ok Tryz.prog 4 c_law20_PathOwn 78 [] [.tmp 4] := Ok.mk' Tryz.func4 (by kernel_rfl) (by kernel_rfl) (by kernel_rfl)

end Go.Proofs.YtnoeabmpdjpfaaaGreatDoor.Vc

/- PathOwn, the walk. -/
set_option linter.unusedVariables false
set_option linter.unusedSimpArgs false
set_option maxRecDepth 100000
namespace Go.Proofs.YtnoeabmpdjpfaaaGreatDoor.Vc
open Go Go.Proofs

theorem childA_len {T : PT} {k : Nat} (hok : T.ok k) (hkd : T.kidsOk) (hk : k ≤ 1099511627770) (n : Int) : (childA T n).length ≤ 1099511627776 := by
  have hm := hok.many
  cases hx : T.get n with
  | none => rw [childA_none hx]; simp
  | some x =>
    have := kids_few hkd hx
    rw [childA_get hx, sortCh_len, List.length_map]
    omega
theorem attrsOf_few {T : PT} {k : Nat} (hok : T.ok k) (hk : k ≤ 1099511627770) {n : Int} {x : PN} (hx : T.get n = some x) : (attrsOf x).length ≤ 1099511627776 := by
  have := (hok.attrs n x hx).2
  rw [attrsOf, List.length_map]
  have h2 : (attrKeys x).length ≤ x.attrs.length := by simp [attrKeys, sortB]
  omega
section
variable {w : World} {u : PH} {L : Lay} {T : PT} {k : Nat}
theorem List_spec (hu : u.le w) (hT : TM u L T) (p : List UInt8) (hp : p.length < 4294967281) (uG : PH) (huG : uG.le w) (hG : Pa.GlobI uG) (hok : T.ok k) (hk' : k ≤ 1099511627000) (hg : VGood T.view) (hkd : T.kidsOk) :
    Spec Tryz.prog f_path_List [ptr (L .t), .string (Pa.mkS p)] PH.no w fun rs m' => ∃ v e, ∃ cs : List Child, rs = [.s v, .s (.int .i64 e)] ∧ cs.length ≤ 1099511627776 ∧ SlO m' v 51 2 (cs.map gChild) := by
  refine spec_of k_path_List [.g (.s (ptr (L .t))), .g (.s (.string (Pa.mkS p)))] (by simp) (by simp [AV.ok, GV.ok, Value.oneCell', ptr]) ?_
  have hmany := hok.many
  simp (maxSteps := 2000000) only [c_path_List, vc_seq, vc_rg, thenQ_n, kKeep_eq, segs_nil, segs_n, ops_nil, ops_cons, vcOp, ev, look, put_mk, keep_mk, keepL, Value.oneCell', cond_true, Nat.reduceEqDiff, ↓reduceIte, reduceCtorEq, Nat.zero_add, initF, initP, ptr]
  refine call_val (dOk_spec rfl) rfl (Q := fun rs _ => ResQ T p rs) (fun w' vs hv hw hph => ?_) fun rs m4 _ hq => ?_
  · obtain ⟨vs, rfl, _, hv⟩ := argsV_g hv
    obtain ⟨vs, rfl, _, hv⟩ := argsV_g hv
    obtain rfl := argsV_nil hv
    exact Resolve_spec (fun b o h => hw b o (by rw [u0_no]; exact hu b o h)) hT _ hp uG (fun b o hb => hw b o (by rw [u0_no]; exact huG b o hb)) hG hok (by omega) hg hkd
  obtain ⟨g, e, rfl, _⟩ := hq
  simp (maxSteps := 2000000) only [retS, List.getElem?_cons_zero, List.getElem?_cons_succ, vc_skip, vc_ret, vc_seq, vc_rg, vc_ite, thenQ_n, thenQ_r, kKeep_eq, finQ_r, segs_nil, segs_n, ops_nil, ops_cons, vcOp, ev, look, put_mk, keep_mk, keepL, binV, binC, Value.oneCell', cond_true, Nat.reduceEqDiff, ↓reduceIte, reduceCtorEq, Bool.true_and, true_and, br_t]
  refine ⟨fun _ => ?_, fun _ => ?_⟩
  · exact fin_m (rs := [.s (.slice none 0 0), .s (.int .i64 e)]) PH.no rfl (fun _ _ h => h) ⟨_, _, [], rfl, by simp, fun x hx => by simp at hx, .inl ⟨rfl, rfl⟩⟩
  refine call_ownm rfl rfl (Q := fun rs m' => ∃ v, rs = [.s v] ∧ SlO m' v 51 2 ((childA T g).map gChild)) (fun w' vs hv hw _ _ => ?_) fun rs m1 _ hq _ => ?_
  · obtain ⟨vs, rfl, _, hv⟩ := argsV_g hv
    obtain ⟨vs, rfl, _, hv⟩ := argsV_g hv
    obtain rfl := argsV_nil hv
    exact Children_spec (fun b o h => hw b o (by rw [u0_no]; exact hu b o h)) hT g hkd hg (by omega)
  obtain ⟨v, rfl, hv⟩ := hq
  simp (maxSteps := 2000000) only [retS, uni_no_r, vc_ret, thenQ_n, kKeep_eq, finQ_r, segs_nil, ops_nil, ops_cons, vcOp, ev, look, put_mk, keep_mk, keepL, Value.oneCell', cond_true, Nat.reduceEqDiff, ↓reduceIte]
  exact fin_m (rs := [.s v, .s (.int .i64 0)]) _ rfl (fun _ _ h => h) ⟨v, 0, _, rfl, childA_len hok hkd (by omega) g, hv⟩
theorem Attrs_spec (hu : u.le w) (hT : TM u L T) (p : List UInt8) (hp : p.length < 4294967281) (uG : PH) (huG : uG.le w) (hG : Pa.GlobI uG) (hok : T.ok k) (hk' : k ≤ 1099511627000) (hg : VGood T.view) (hkd : T.kidsOk) :
    Spec Tryz.prog f_path_Attrs [ptr (L .t), .string (Pa.mkS p)] PH.no w fun rs m' => ∃ v e, ∃ ats : List Attr, rs = [.s v, .s (.int .i64 e)] ∧ ats.length ≤ 1099511627776 ∧ SlO m' v 55 2 (ats.map gAttr) := by
  refine spec_of k_path_Attrs [.g (.s (ptr (L .t))), .g (.s (.string (Pa.mkS p)))] (by simp) (by simp [AV.ok, GV.ok, Value.oneCell', ptr]) ?_
  have hmany := hok.many
  have hsm : ∀ n x, T.get n = some x → x.small := (ok_tells hok (by omega)).small
  simp (maxSteps := 2000000) only [c_path_Attrs, vc_seq, vc_rg, thenQ_n, kKeep_eq, segs_nil, segs_n, ops_nil, ops_cons, vcOp, ev, look, put_mk, keep_mk, keepL, Value.oneCell', cond_true, Nat.reduceEqDiff, ↓reduceIte, reduceCtorEq, Nat.zero_add, initF, initP, gTreeNode_zero, ptr]
  refine call_val (dOk_spec rfl) rfl (Q := fun rs _ => ResQ T p rs) (fun w' vs hv hw hph => ?_) fun rs m4 _ hq => ?_
  · obtain ⟨vs, rfl, _, hv⟩ := argsV_g hv
    obtain ⟨vs, rfl, _, hv⟩ := argsV_g hv
    obtain rfl := argsV_nil hv
    exact Resolve_spec (fun b o h => hw b o (by rw [u0_no]; exact hu b o h)) hT _ hp uG (fun b o hb => hw b o (by rw [u0_no]; exact huG b o hb)) hG hok (by omega) hg hkd
  obtain ⟨g, e, rfl, _⟩ := hq
  simp (maxSteps := 2000000) only [retS, List.getElem?_cons_zero, List.getElem?_cons_succ, vc_skip, vc_ret, vc_seq, vc_rg, vc_ite, thenQ_n, thenQ_r, kKeep_eq, finQ_r, segs_nil, segs_n, ops_nil, ops_cons, vcOp, ev, look, put_mk, keep_mk, keepL, binV, binC, Value.oneCell', cond_true, Nat.reduceEqDiff, ↓reduceIte, reduceCtorEq, Bool.true_and, true_and, br_t]
  refine ⟨fun _ => ?_, fun _ => ?_⟩
  · exact fin_m (rs := [.s (.slice none 0 0), .s (.int .i64 e)]) PH.no rfl (fun _ _ h => h) ⟨_, _, [], rfl, by simp, fun x hx => by simp at hx, .inl ⟨rfl, rfl⟩⟩
  refine call_ownm rfl rfl (Q := fun rs m' => ∃ t b, ∃ ats : List Attr, rs = [gTreeNode t, .s (.bool b)] ∧ ats.length ≤ 1099511627776 ∧ SlO m' t.attrs 55 2 (ats.map gAttr)) (fun w' vs hv hw _ _ => ?_) fun rs m1 _ hq _ => ?_
  · obtain ⟨vs, rfl, _, hv⟩ := argsV_g hv
    obtain ⟨vs, rfl, _, hv⟩ := argsV_g hv
    obtain rfl := argsV_nil hv
    refine (Node_spec (fun b o h => hw b o (by rw [u0_no]; exact hu b o h)) hT g (hsm g)).mono fun rs m' h => ?_
    cases hx : T.get g with
    | none => exact ⟨zTreeNode, false, [], h.1 hx, by simp, fun x hx => by simp at hx, .inl ⟨rfl, rfl⟩⟩
    | some x =>
      obtain ⟨v, e1, e2⟩ := h.2 x hx
      exact ⟨_, true, _, e1, attrsOf_few hok (by omega) hx, e2⟩
  obtain ⟨t, b, ats, rfl, hal, hv⟩ := hq
  simp (maxSteps := 2000000) only [retS, uni_no_r, List.getElem?_cons_zero, List.getElem?_cons_succ, vc_ret, vc_seq, vc_rg, thenQ_n, kKeep_eq, finQ_r, segs_nil, segs_n, ops_nil, ops_cons, vcOp, ev, look, updL, put_mk, put_mk0, keep_mk, keepL, GV.getT, Value.oneCell', cond_true, Nat.reduceEqDiff, ↓reduceIte, List.nil_append, Bool.and_true, Bool.true_and, Bool.not_false, true_and, and_true, getT_nil, setT_nil, fits_s, gTreeNode_sz, gTreeNode_same, gTreeNode_fld3, gTreeNode_get3]
  exact fin_m (rs := [.s t.attrs, .s (.int .i64 0)]) _ rfl (fun _ _ h => h) ⟨t.attrs, 0, ats, rfl, hal, hv⟩
end

theorem own_spec (w : World) (va : Value) (ops : List Op) (p : List UInt8) (hp : p.length < 4294967281) (hl : ops.length ≤ 1048576) (ho : ∀ op ∈ ops, OpOk op) (u : PH) (hu : u.le w) (hc : SlR u va 8 (ops.map gOp)) (uG : PH) (huG : uG.le w) (hG : Pa.GlobI uG) :
    Spec Tryz.prog f_law20_PathOwn [va, .string (Pa.mkS p)] PH.no w fun rs _ => rs = [.s (.bool true)] := by
  refine spec_val k_law20_PathOwn (Qf := fun rs => rs = [.s (.bool true)]) [.ro va 8 (gOp zOp) (ops.map gOp), .g (.s (.string (Pa.mkS p)))] (by simp) (by simpa [AV.ok, u0_no, GV.ok, Value.oneCell'] using hc.up hu.sub) ?_
  simp (maxSteps := 2000000) only [c_law20_PathOwn, vc_seq, vc_rg, thenQ_n, kKeep_eq, segs_nil, segs_n, ops_nil, ops_cons, vcOp, ev, look, put_mk, keep_mk, keepL, Value.oneCell', cond_true, Nat.reduceEqDiff, ↓reduceIte, reduceCtorEq, Nat.zero_add, initF, initP, List.length_map]
  refine call_frz (dOk_spec rfl) rfl (Q := fun rs m' => ∃ L T b lr ls mA mR, rs = [.s (ptr (L .t)), .s (ptr b)] ∧ m' = uni mR mA ∧ dis mR mA ∧ TM mA L T ∧ RC mR b lr ls ∧ LOk lr ∧ viewL lr = T.view ∧ T.ok ops.length ∧ VGood T.view ∧ T.kidsOk) (fun w' vs hv hw _ => ?_) fun rs m1 _ hq => ?_
  · obtain ⟨v1, vs, rfl, k1, hv⟩ := argsV_row (z := 8) (xs := ops.map gOp) rfl (by simp) hv
    obtain rfl := argsV_nil hv
    exact made20_spec w' v1 ops hl ho w'.ph (fun _ _ h => h) k1
  obtain ⟨L, T, b, lr, ls, mA, mR, rfl, rfl, hd, hT, hR, hLr, hvl, hok, hg, hkd⟩ := hq
  have hA : ∀ {w' : World} {ph : List PH}, uni mR mA ∈ ph → (∀ u ∈ ph, u.le w') → mA.le w' := fun hm h b o hb => h _ hm b o (sub_uni_r hd b o hb)
  have hmany := hok.many
  simp (maxSteps := 2000000) only [retS, List.getElem?_cons_zero, List.getElem?_cons_succ, vc_seq, vc_rg, thenQ_n, kKeep_eq, segs_nil, segs_n, ops_nil, ops_cons, vcOp, ev, look, put_mk, keep_mk, keepL, Nat.reduceEqDiff, ↓reduceIte, reduceCtorEq, ptr]
  refine call_is _ [.s (.bool true)] rfl rfl (fun w' vs hv hw _ => ?_) ?_
  · obtain rfl := argsV_nil hv
    exact Pa.begun_spec w' uG (fun b o hb => hw b o (by rw [u0_no]; exact huG b o hb)) hG
  simp (maxSteps := 2000000) only [retS, segs_g, ops_nil, ops_cons, vcOp, ev, look, put_mk, unV, Value.oneCell', cond_true, Nat.reduceEqDiff, ↓reduceIte, Bool.not_true, ↓br_ff]
  refine eq_of (eqTree _) ?_
  simp (maxSteps := 2000000) only [vc_skip, vc_seq, vc_rg, vc_ite, thenQ_n, kKeep_eq, segs_nil, segs_n, ops_nil, ops_cons, vcOp, ev, look, put_mk, keep_mk, keepL, Value.oneCell', cond_true, Nat.reduceEqDiff, ↓reduceIte, ↓br_ft, Bool.bne_false]
  refine call_ownm rfl rfl (Q := fun rs m' => Pa.SplitR (Pa.splitA p) rs m') (fun w' vs hv hw _ _ => ?_) fun rs m2 _ hq _ => ?_
  · obtain ⟨vs, rfl, _, hv⟩ := argsV_g hv
    obtain rfl := argsV_nil hv
    exact Pa.pSplit_spec w' p hp uG (fun b o hb => hw b o (by rw [u0_no]; exact huG b o hb)) hG
  obtain ⟨v2, rfl, hS2⟩ := hq
  simp (maxSteps := 2000000) only [retS, uni_no_r, List.getElem?_cons_zero, List.getElem?_cons_succ, vc_seq, vc_rg, thenQ_n, kKeep_eq, segs_nil, segs_n, ops_nil, ops_cons, vcOp, ev, look, put_mk, keep_mk, keepL, Nat.reduceEqDiff, ↓reduceIte]
  refine gh_own 7 7 (.s (.string ⟨#[]⟩)) rfl rfl hS2 (uni_no_r _).symm (dis_no_r _) ?_
  simp (maxSteps := 2000000) only [vc_block, thenQ_n, kKeep_eq, segs_nil, ops_nil, ops_cons, vcOp, ev, look, put_mk, keep_mk, keepL, Value.oneCell', cond_true, Nat.reduceEqDiff, ↓reduceIte, List.length_map]
  have hn0 := Pa.splitA_len p
  generalize (Pa.splitA p).1 = ns0 at *
  refine vc_loop (ι := Nat × List (List UInt8)) (fun q => ⟨[(1, .g (.s (.string (Pa.mkS p)))), (5, .g (.s (.pointer (some ⟨L .t, 0, none⟩)))), (6, .g (.s (.pointer (some ⟨b, 0, none⟩)))), (7, .row 7 0 (ns0.length)), (33, .g (.s (.int .i64 (ns0.length)))), (34, .g (.s (.int .i64 (q.1))))], [(7, .row 9 1 (.s (.string ⟨#[]⟩)) (q.2.map Pa.gN))], [uni mR mA], PH.no⟩)
    (fun q => q.1 ≤ ns0.length ∧ q.2.length = ns0.length) (fun q => ns0.length - q.1) (0, ns0) ⟨by simp, rfl⟩ (ge_of ?_ ?_ rfl rfl rfl) ?_
  · simp [frIn, look]
  · simp [pvIn, look]
  rintro ⟨i, xs⟩ ⟨hi, hxl⟩
  simp only at hi hxl
  generalize hQ : loopQ _ _ _ _ _ = Q
  simp (maxSteps := 2000000) only [c_law20_PathOwn_L0, vc_skip, vc_exit, vc_seq, vc_block, vc_rg, vc_ite, thenQ_n, thenQ_e, blockQ_n, kKeep_eq, segs_nil, segs_n, ops_nil, ops_cons, vcOp, ev, look, updL, put_mk, put_mk0, keep_mk, keepL, rowE, binV, binC, GV.sz, Value.oneCell', cond_true, Nat.reduceEqDiff, ↓reduceIte, Nat.zero_add, Bool.and_true, Bool.true_and, true_and, and_true, Int.toNat_natCast, decide_eq_true_eq, decide_eq_false_iff_not, br_t, getT_nil, setT_nil]
  refine ⟨fun hlt => ?_, fun hge => ?_⟩
  · refine ⟨⟨by omega, by omega⟩, by rw [Pa.getD_gN]; trivial, ?_⟩
    rw [show (xs.map Pa.gN).set i (.s (.string ⟨#[115, 112, 111, 105, 108, 116]⟩)) = (xs.set i [115, 112, 111, 105, 108, 116]).map Pa.gN by rw [List.map_set]; rfl]
    subst hQ; simp only [loopQ_n]; refine ⟨(i + 1, xs.set i [115, 112, 111, 105, 108, 116]), ?_, ?_, ge_of ?_ ?_ rfl rfl rfl⟩
    · exact ⟨by simp only; omega, by simp only [List.length_set]; exact hxl⟩
    · simp only; omega
    · simp only [frIn, look, Nat.reduceEqDiff, ↓reduceIte, Bool.and_true, Bool.true_and, true_and, and_true]
      rw [wrap_n (by omega)]
      try simp
    · simp [pvIn, look]
  · subst hQ
    simp (maxSteps := 2000000) only [vc_seq, vc_rg, thenQ_n, blockQ_e, loopQ_e, segs_n, ops_cons, vcOp, ev, look, put_mk, Nat.reduceEqDiff, ↓reduceIte]
    refine call_ownm rfl rfl (Q := fun rs m' => ∃ v e, ∃ cs : List Child, rs = [.s v, .s (.int .i64 e)] ∧ cs.length ≤ 1099511627776 ∧ SlO m' v 51 2 (cs.map gChild)) (fun w' vs hv hw hph _ => ?_) fun rs m3 _ hq _ => ?_
    · obtain ⟨vs, rfl, _, hv⟩ := argsV_g hv
      obtain ⟨vs, rfl, _, hv⟩ := argsV_g hv
      obtain rfl := argsV_nil hv
      exact List_spec (hA (by simp) hph) hT p hp uG (fun b o hb => hw b o (by rw [u0_no]; exact huG b o hb)) hG hok (by omega) hg hkd
    obtain ⟨v3, e3, cs0, rfl, hcl, hS3⟩ := hq
    simp (maxSteps := 2000000) only [retS, uni_no_r, List.getElem?_cons_zero, List.getElem?_cons_succ, vc_seq, vc_rg, thenQ_n, kKeep_eq, segs_nil, segs_n, ops_nil, ops_cons, vcOp, ev, look, put_mk, keep_mk, keepL, Nat.reduceEqDiff, ↓reduceIte]
    refine gh_own 10 10 (gChild zChild) rfl rfl hS3 (uni_no_r _).symm (dis_no_r _) ?_
    simp (maxSteps := 2000000) only [vc_block, thenQ_n, kKeep_eq, segs_nil, ops_nil, ops_cons, vcOp, ev, look, put_mk, keep_mk, keepL, Value.oneCell', cond_true, Nat.reduceEqDiff, ↓reduceIte, List.length_map]
    clear hxl
    refine vc_loop (ι := Nat × List Child) (fun q => ⟨[(1, .g (.s (.string (Pa.mkS p)))), (5, .g (.s (.pointer (some ⟨L .t, 0, none⟩)))), (6, .g (.s (.pointer (some ⟨b, 0, none⟩)))), (10, .row 10 0 (cs0.length)), (48, .g (.s (.int .i64 (cs0.length)))), (49, .g (.s (.int .i64 (q.1))))], [(10, .row 51 2 (gChild zChild) (q.2.map gChild))], [uni mR mA], PH.no⟩)
      (fun q => q.1 ≤ cs0.length ∧ q.2.length = cs0.length) (fun q => cs0.length - q.1) (0, cs0) ⟨by simp, rfl⟩ (ge_of ?_ ?_ rfl rfl rfl) ?_
    · simp [frIn, look]
    · simp [pvIn, look]
    rintro ⟨i, xs⟩ ⟨hi, hxl⟩
    simp only at hi hxl
    generalize hQ : loopQ _ _ _ _ _ = Q
    simp (maxSteps := 2000000) only [c_law20_PathOwn_L1, vc_skip, vc_exit, vc_seq, vc_block, vc_rg, vc_ite, thenQ_n, thenQ_e, blockQ_n, kKeep_eq, segs_nil, segs_n, ops_nil, ops_cons, vcOp, ev, look, updL, put_mk, put_mk0, keep_mk, keepL, rowE, rowD, binV, binC, GV.getT, GV.sz, Value.oneCell', cond_true, Nat.reduceEqDiff, ↓reduceIte, List.nil_append, Nat.zero_add, Bool.and_true, Bool.true_and, true_and, and_true, Int.toNat_natCast, decide_eq_true_eq, decide_eq_false_iff_not, br_t, same_int, getT_nil, gChild_fld1, gChild_get1, gChild_set1, getD_gChild]
    refine ⟨fun hlt => ?_, fun hge => ?_⟩
    · refine ⟨⟨by omega, by omega⟩, ?_⟩
      rw [← List.map_set]
      subst hQ; simp only [loopQ_n]; refine ⟨(i + 1, xs.set i ⟨(xs.getD i zChild).name, -9⟩), ?_, ?_, ge_of ?_ ?_ rfl rfl rfl⟩
      · exact ⟨by simp only; omega, by simp only [List.length_set]; exact hxl⟩
      · simp only; omega
      · simp only [frIn, look, Nat.reduceEqDiff, ↓reduceIte, Bool.and_true, Bool.true_and, true_and, and_true]
        rw [wrap_n (by omega)]
        try simp
      · simp [pvIn, look]
    · subst hQ
      simp (maxSteps := 2000000) only [vc_seq, vc_rg, thenQ_n, blockQ_e, loopQ_e, segs_n, ops_cons, vcOp, ev, look, put_mk, Nat.reduceEqDiff, ↓reduceIte]
      refine call_ownm rfl rfl (Q := fun rs m' => ∃ v e, ∃ ats : List Attr, rs = [.s v, .s (.int .i64 e)] ∧ ats.length ≤ 1099511627776 ∧ SlO m' v 55 2 (ats.map gAttr)) (fun w' vs hv hw hph _ => ?_) fun rs m3 _ hq _ => ?_
      · obtain ⟨vs, rfl, _, hv⟩ := argsV_g hv
        obtain ⟨vs, rfl, _, hv⟩ := argsV_g hv
        obtain rfl := argsV_nil hv
        exact Attrs_spec (hA (by simp) hph) hT p hp uG (fun b o hb => hw b o (by rw [u0_no]; exact huG b o hb)) hG hok (by omega) hg hkd
      obtain ⟨v4, e4, as0, rfl, hal, hS4⟩ := hq
      simp (maxSteps := 2000000) only [retS, uni_no_r, List.getElem?_cons_zero, List.getElem?_cons_succ, vc_seq, vc_rg, thenQ_n, kKeep_eq, segs_nil, segs_n, ops_nil, ops_cons, vcOp, ev, look, put_mk, keep_mk, keepL, Nat.reduceEqDiff, ↓reduceIte]
      refine gh_own 13 13 (gAttr zAttr) rfl rfl hS4 (uni_no_r _).symm (dis_no_r _) ?_
      simp (maxSteps := 2000000) only [vc_block, thenQ_n, kKeep_eq, segs_nil, ops_nil, ops_cons, vcOp, ev, look, put_mk, keep_mk, keepL, Value.oneCell', cond_true, Nat.reduceEqDiff, ↓reduceIte, List.length_map]
      clear hxl
      refine vc_loop (ι := Nat × List Attr) (fun q => ⟨[(5, .g (.s (.pointer (some ⟨L .t, 0, none⟩)))), (6, .g (.s (.pointer (some ⟨b, 0, none⟩)))), (13, .row 13 0 (as0.length)), (64, .g (.s (.int .i64 (as0.length)))), (65, .g (.s (.int .i64 (q.1))))], [(13, .row 55 2 (gAttr zAttr) (q.2.map gAttr))], [uni mR mA], PH.no⟩)
        (fun q => q.1 ≤ as0.length ∧ q.2.length = as0.length) (fun q => as0.length - q.1) (0, as0) ⟨by simp, rfl⟩ (ge_of ?_ ?_ rfl rfl rfl) ?_
      · simp [frIn, look]
      · simp [pvIn, look]
      rintro ⟨i, xs⟩ ⟨hi, hxl⟩
      simp only at hi hxl
      generalize hQ : loopQ _ _ _ _ _ = Q
      simp (maxSteps := 2000000) only [c_law20_PathOwn_L2, vc_skip, vc_exit, vc_seq, vc_block, vc_rg, vc_ite, thenQ_n, thenQ_e, blockQ_n, kKeep_eq, segs_nil, segs_n, ops_nil, ops_cons, vcOp, ev, look, updL, put_mk, put_mk0, keep_mk, keepL, rowE, rowD, binV, binC, GV.getT, GV.sz, GV.same, Value.oneCell', cond_true, Nat.reduceEqDiff, ↓reduceIte, List.nil_append, Nat.zero_add, Bool.and_true, Bool.true_and, true_and, and_true, Int.toNat_natCast, decide_eq_true_eq, decide_eq_false_iff_not, br_t, getT_nil, gAttr_fld1, gAttr_get1, gAttr_set1, getD_gAttr]
      refine ⟨fun hlt => ?_, fun hge => ?_⟩
      · refine ⟨⟨by omega, by omega⟩, ?_⟩
        rw [← List.map_set]
        subst hQ; simp only [loopQ_n]; refine ⟨(i + 1, xs.set i ⟨(xs.getD i zAttr).key, ⟨#[115, 112, 111, 105, 108, 116]⟩⟩), ?_, ?_, ge_of ?_ ?_ rfl rfl rfl⟩
        · exact ⟨by simp only; omega, by simp only [List.length_set]; exact hxl⟩
        · simp only; omega
        · simp only [frIn, look, Nat.reduceEqDiff, ↓reduceIte, Bool.and_true, Bool.true_and, true_and, and_true]
          rw [wrap_n (by omega)]
          try simp
        · simp [pvIn, look]
      · subst hQ
        simp (maxSteps := 2000000) only [vc_seq, vc_rg, thenQ_n, blockQ_e, loopQ_e, segs_n, ops_cons, vcOp, ev, look, put_mk, ↓reduceIte]
        have hpl : plainL lr = nodesTold T := plain_told hLr hvl hok hg
        obtain ⟨hb1, hb2⟩ := list_bounds hLr hvl hok hg
        refine call_frz (dOk_spec rfl) rfl (Q := fun rs m' => ∃ v ts, rs = [.s v] ∧ SlR m' v 4 (ts.map gTreeNode) ∧ TsOk m' ts (nodesTold T)) (fun w' vs hv hw hph => ?_) fun rs mx _ hq => ?_
        · obtain ⟨vs, rfl, _, hv⟩ := argsV_g hv
          obtain rfl := argsV_nil hv
          exact Nodes_spec w' mA (hA (by simp) hph) L T hT (ok_tells hok (by omega))
        obtain ⟨vx, tx, rfl, hsx, htx⟩ := hq
        simp (maxSteps := 2000000) only [retS, ops_cons, vcOp, ev, look, put_mk, Nat.reduceEqDiff, ↓reduceIte]
        obtain ⟨m1', A, hmR, hdA, hRM⟩ := hR
        refine call_frz (dOk_spec rfl) rfl (Q := fun rs m' => ∃ v ts, rs = [.s v] ∧ SlR m' v 4 (ts.map gTreeNode) ∧ TsOk m' ts (plainL lr)) (fun w' vs hvv hw hph => ?_) fun rs my _ hq => ?_
        · obtain ⟨vs, rfl, _, hvv⟩ := argsV_g hvv
          obtain rfl := argsV_nil hvv
          have s0 : PH.sub mR w'.ph := fun b o h => hph (uni mR mA) (by simp) b o (sub_uni_l _ _ b o h)
          exact rNodes_spec w' A m1' (fun b o h => s0 b o (by rw [hmR]; exact sub_uni_l _ _ b o h)) (fun b o h => s0 b o (by rw [hmR]; exact sub_uni_r hdA b o h)) b lr ls hRM (by omega) fun t ht => by have := hb2 t ht; omega
        obtain ⟨vy, ty, rfl, hsy, hty⟩ := hq
        simp (maxSteps := 2000000) only [retS, ops_cons, vcOp, put_mk]
        have hlx := nodesTold_len T
        refine call_ism _ [.s (.bool true)] rfl rfl (fun w' vs hv _ hph _ => ?_) ?_
        · obtain ⟨vs, rfl, _, hv⟩ := argsV_g hv
          obtain ⟨vs, rfl, _, hv⟩ := argsV_g hv
          obtain rfl := argsV_nil hv
          have s1 : PH.sub mx w'.ph := hph mx (by simp)
          have s2 : PH.sub my w'.ph := hph my (by simp)
          have := rSame_spec w' vx vy tx ty _ _ w'.ph (fun _ _ h => h) (hsx.up s1) (hsy.up s2) (htx.up s1) (hty.up s2) (by rw [htx.len]; omega) (fun t ht => by have := nodesTold_few hok ht; omega)
          rw [decide_eq_true (by rw [hpl])] at this
          exact this
        simp (maxSteps := 2000000) only [retS, vc_ret, thenQ_n, kKeep_eq, segs_nil, ops_nil, ops_cons, vcOp, ev, look, put_mk, keep_mk, keepL, ↓reduceIte, finW_r, resL, resOne]
end Go.Proofs.YtnoeabmpdjpfaaaGreatDoor.Vc

/- PathOwn: where what is read is of bulk at most the row's bound, the law answers true and leaves its arguments as they were: the row with a bound, and its card. -/
set_option linter.unusedVariables false
set_option linter.unusedSimpArgs false
set_option maxRecDepth 100000
namespace Go.Proofs.YtnoeabmpdjpfaaaGreatDoor.Vc
open Go Go.Proofs Go.Proofs.YtnoeabmpdjpfaaaGreatDoor Go.ChangeShapes Go.WideShapes Go.ChangeAt

theorem zOwn : ownKnob Tryz.prog.godebug = none := by kernel_rfl
theorem zLaidOut : laidOutB Tryz.prog = true := by kernel_rfl
/-- The library's one variable holds some number. -/
theorem globI {W : World} (h : W.ShapedOpen Tryz.prog) : Pa.GlobI W.ph := by
  obtain ⟨m, hm⟩ := cell_of_shapedOpen_int (P := Tryz.prog) (g := 0) (t := 3) (zero := #[.int .i64 0]) h (of_decide_eq_true (by kernel_rfl)) (by kernel_rfl) rfl (by kernel_rfl) (by kernel_rfl) Tryz.underlying3
  unfold World.cell? at hm
  split at hm
  · rename_i c ty fz hb
    simp only [Option.isSome_none, Bool.false_eq_true, if_false] at hm
    exact ⟨c, ty, fz, m, hb, hm⟩
  · cases hm
theorem PathOwn_open {H : Type} (enc : TypeId × Value → H) (W : World) (base : Nat) (vs : List Value) (h : RdBs enc Tryz.prog W base [22, 9] vs 1048576) (hsh : W.ShapedOpen Tryz.prog) : Spec Tryz.prog f_law20_PathOwn vs PH.no W fun rs _ => rs = [.s (.bool true)] := by
  obtain ⟨v1, vs, a, b, rfl, hab, h1, g1, h⟩ := rdbs_cons h
  obtain ⟨v2, vs, a2, b2, rfl, hab2, h2, g2, h⟩ := rdbs_cons h
  obtain rfl := rdbs_nil h
  obtain ⟨ops, k1, l1, o1⟩ := open_Ops h1 g1
  obtain ⟨s, rfl, hs⟩ := rdb_str (by kernel_rfl) h2 g2
  have := own_spec W v1 ops s.data.toList (by rw [Array.length_toList]; have : s.data.size = s.size := rfl; omega) (by omega) o1 W.ph (fun _ _ h => h) k1 W.ph (fun _ _ h => h) (globI hsh)
  rwa [Pa.mkS_of] at this

/-! ### A world for the witness -/
noncomputable def laidWorld (os : Os) : World :=
  let w0 := World.holding Tryz.prog os ⟨#[], #[], []⟩
  let put (h : Array Obj) (g : Nat) (cs : Array Value) : Array Obj := h.modify g fun
    | .cells _ t frozen => .cells cs t frozen
    | o => o
  let h1 := put w0.heap 1 (Pinned.utf8FirstZ.map fun z : Nat => Value.int .u8 (z : Int)).toArray
  let h2 := put h1 2 (([128, 191, 160, 191, 128, 159, 144, 191, 128, 143, 0, 0, 0, 0, 0, 0, 0, 0, 0, 0, 0, 0, 0, 0, 0, 0, 0, 0, 0, 0, 0, 0] : List Nat).map fun z : Nat => Value.int .u8 (z : Int)).toArray
  { w0 with heap := h2 }
theorem laid_met1 (os : Os) (args : Array Value) : laidMet Tryz.prog Rows.pathOwnUptoRow.laid ((laidWorld os).forCall (fun _ _ => 0) ⟨#[], args, []⟩).memory :=
  laidMet_of_run' 8 (by kernel_rfl) (by kernel_rfl)
theorem PathOwn_reads (os : Os) {H : Type} (enc : TypeId × Value → H) : ∃ places, DataW.whole enc Tryz.prog ((laidWorld os).forCall (fun _ _ => 0) ⟨#[], #[.slice none 0 0, .string ⟨#[]⟩], []⟩).memory Tryz.f4.params.toList Rows.pathOwnSpec.vars false #[Value.slice none 0 0, .string ⟨#[]⟩].toList 8 = some ([.nil, .lit (.string [])], [], places) :=
  ⟨[], by kernel_rfl⟩
theorem PathOwn_lifted (os : Os) (started : os.Started) (H : Type) (enc : TypeId × Value → H) (F : Stop.Interp) :
    ReturnsInHanded {} Tryz.checked os f_law20_PathOwn .any ((Rows.OpenSpec.upto Rows.pathOwnSpec).preRow enc Tryz.prog Tryz.f4 Rows.pathOwnUptoRow.domain false Rows.pathOwnUptoRow.laid) (((Rows.OpenSpec.upto Rows.pathOwnSpec).at F).post enc Tryz.prog Tryz.f4 false true false false) := by
  obtain ⟨places, hx⟩ := PathOwn_reads os enc
  exact law_lifted_upto (C := Tryz.checked) zOwn zLaidOut started (by kernel_rfl) Tryz.func4
    (witness_row_at (enc := enc) (C := Tryz.checked) false (laidWorld os) #[.slice none 0 0, .string ⟨#[]⟩] rfl (by kernel_rfl) (by kernel_rfl) (by kernel_rfl)
      (OpenSpec.preRow_of_cond 8 hx (by kernel_rfl) (fun k hk => by cases hk; kernel_rfl) (by kernel_rfl) (laid_met1 os _)))
    (by kernel_rfl) rfl (tb := 4) (by kernel_rfl) (by kernel_rfl) (ts := [22, 9]) (by kernel_rfl) (fun ds h => by match ds, h with | [d0, d1], _ => rfl) (PathOwn_open enc)
theorem PathOwn_upto : Rows.PathOwnUptoSaid :=
  OpenClaim.holds_of_cond f_law20_PathOwn Tryz.f4 rfl rfl rfl rfl rfl rfl rfl ⟨rfl, rfl, rfl, rfl, rfl⟩ rfl rfl rfl rfl rfl (by kernel_rfl) Tryz.func4 (by kernel_rfl)
    (of_decide_eq_true (by kernel_rfl)) (by unfold Func.isWrapper; first | (rw [if_pos (by decide +kernel)]; kernel_rfl) | (rw [if_neg (by decide +kernel)]; exact ⟨rfl, rfl⟩))
    (fun os started H enc _ F => by rw [OpenClaim.pre_eq_preRow]; exact PathOwn_lifted os started H enc F)
theorem PathOwn_plain (f : FuncId) (fn : Func) (hf : Tryz.pinned.checked.prog.funcNamed "orchard/orchardlaw20.PathOwn" = some f) (hfn : Tryz.pinned.checked.prog.funcs[f]? = some fn) :
    false = Tryz.pinned.checked.prog.looks [] ∧ ∀ (j : Nat) t, fn.params[j]? = some t → Tryz.pinned.checked.prog.wantsStandIn t = false := by
  obtain rfl : f = 4 := Option.some.inj ((show Tryz.prog.funcNamed "orchard/orchardlaw20.PathOwn" = some 4 by kernel_rfl).symm.trans hf) |>.symm
  obtain rfl : fn = Tryz.f4 := (Option.some.inj (Tryz.func4.symm.trans hfn)).symm
  refine ⟨by kernel_rfl, fun j t ht => ?_⟩
  have hall : (Tryz.f4.params.toList.all fun t => !Tryz.pinned.checked.prog.wantsStandIn t) = true := by kernel_rfl
  have := List.all_eq_true.1 hall t (List.mem_of_getElem? (by simpa using ht))
  simpa using this
theorem PathOwn_card : Rows.PathOwnUptoCardSaid :=
  Claim7.holds_tied_plain_at .later [] _ _ _ _ PathOwn_upto (fun _ h => by cases h) (by kernel_rfl) (fun _ h => by cases h) pathOwnUpto_row_tie rfl ⟨rfl, rfl⟩ (by kernel_rfl) rfl PathOwn_plain (by kernel_rfl)
#print axioms PathOwn_card
end Go.Proofs.YtnoeabmpdjpfaaaGreatDoor.Vc

