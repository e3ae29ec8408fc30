/- PathFinds: where what is read is of bulk at most the row's bound, the law answers true and leaves its arguments as they were: the row with a bound, and its card. -/
import Derived.Test.YtnoeabmpdjpfaaaGreatDoorProg
import Derived.Test.YtnoeabmpdjpfaaaGreatDoorCards
import Derived.Test.YtnoeabmpdjpfaaaGreatDoorTie
import Derived.Deep.DeepWitnessRowRef
import Derived.Shelf.Vars
import Derived.Test.YtnoeabmpdjpfaaaGreatDoorZPathFindsU5
/- A tree asked for a node, and whether one is below another. -/
set_option linter.unusedVariables false
set_option linter.unusedSimpArgs false
set_option maxRecDepth 100000
namespace Go.Proofs.YtnoeabmpdjpfaaaGreatDoor.Vc
open Go Go.Proofs

section
variable {w : World} {u : PH} {L : Lay} {T : PT}
theorem Node_spec (hu : u.le w) (hT : TM u L T) (n : Int) (hsm : ∀ x, T.get n = some x → x.small) :
    Spec Tryz.prog f_tree_Tree_Node [ptr (L .t), .int .i64 n] PH.no w fun rs m' => (T.get n = none → rs = [gTreeNode zTreeNode, .s (.bool false)]) ∧ ∀ x, T.get n = some x → ∃ v, rs = [gTreeNode ⟨n, x.parent, x.name, v⟩, .s (.bool true)] ∧ SlO m' v 55 2 ((attrsOf x).map gAttr) := by
  refine spec_of k_tree_Tree_Node [.g (.s (ptr (L .t))), .g (.s (.int .i64 n))] (by simp) (by simp [AV.ok, GV.ok, Value.oneCell', ptr]) ?_
  have hk : ∀ {l : List PH}, KN (⟨Tryz.prog, 21, w, PH.no⟩ : Ctx).u0 l u := kn_u hu
  simp (maxSteps := 2000000) only [c_tree_Tree_Node, vc_skip, vc_ret, vc_exit, vc_seq, vc_block, vc_scope, scopeQ_n, scopeQ_r, scopeQ_e, vc_rg, vc_rgq, vc_rga, vc_ite, thenQ_n, thenQ_r, thenQ_e, blockQ_n, blockQ_r, blockQ_e, kKeep_eq, loopQ_r, loopQ_e, loopQ_n, finQ_r, finQ_n, segs_nil, segs_n, segs_g, ops_nil, ops_cons, qsegs_nil, qsegs_n, qsegs_g, qops_nil, qops_cons, ot_done, ot_op, ot_or, List.contains_cons, List.contains_nil, Bool.or_false, Bool.or_true, Bool.true_or, Bool.false_or, vcqOp, vcOp, isRd, RO.isGh, skip_mk, skipL, ev, evL, gvL, scL, look, updL, put_mk, put_mk0, keep_mk, keepL, rowE, rowD, bndN, binV, binC, unV, GV.getT, GV.fld, GV.sz, GV.same, GV.setT, Value.oneCell', cond_true, cond_false, Nat.reduceEqDiff, Nat.reduceAdd, Nat.reduceMul, Nat.reduceSub, Nat.reduceBEq, Nat.reduceLeDiff, ↓reduceIte, reduceCtorEq, List.nil_append, List.cons_append, List.append_nil, Nat.zero_add, Nat.add_zero, Bool.and_true, Bool.true_and, Bool.not_true, Bool.not_false, BEq.rfl, decide_true, decide_false, true_and, and_true, initF, initP, List.map_cons, List.map_nil, Option.map_some, szAll, List.length_cons, List.length_nil, finW_r, finW_n, resL, resOne, Option.bind_some, true_imp_iff, false_imp_iff, Bool.true_eq_false, Bool.false_eq_true, Int.toNat_natCast, Int.reduceToNat, Int.reduceLE, Int.reduceLT, Int.reduceAdd, Int.reduceSub, Int.reduceEq, decide_eq_true_eq, decide_eq_false_iff_not, kill, SV.mentions, ne_eq, not_false_eq_true, not_true_eq_false, List.drop_zero, List.take_succ_cons, List.take_zero, dOk, ↓br_tt, ↓br_ff, ↓br_tf, ↓br_ft, br_t, br_f, Bool.bne_false, Bool.bne_true, GV.bldT, GV.bldC, same_int, getT_nil, setT_nil, getD_gi, List.length_map, fits_s, fits_c, fits_ar, arr_ar, get_nil, gPlace_sz, gPlace_fits, gPlace_isS, gPlace_same, gPlace_fld0, gPlace_get0, gPlace_set0, gPlace_fld1, gPlace_get1, gPlace_set1, gPlace_zero, getD_gPlace, gTreeNode_sz, gTreeNode_fits, gTreeNode_isS, gTreeNode_same, gTreeNode_fld0, gTreeNode_get0, gTreeNode_set0, gTreeNode_fld1, gTreeNode_get1, gTreeNode_set1, gTreeNode_fld2, gTreeNode_get2, gTreeNode_set2, gTreeNode_fld3, gTreeNode_get3, gTreeNode_set3, gTreeNode_zero, getD_gTreeNode, ptr, nptr_some, nptr_none]
  refine call_is _ [.s (.bool false)] rfl rfl (fun w' vs hv hw => ?_) ?_
  · obtain ⟨vs, rfl, _, hv⟩ := argsV_g hv
    obtain rfl := argsV_nil hv
    intro _
    exact none_spec (fun b o h => hw b o (by rw [u0_no]; exact hu b o h)) hT
  simp (maxSteps := 2000000) only [retS, vc_skip, vc_ret, vc_exit, vc_seq, vc_block, vc_scope, scopeQ_n, scopeQ_r, scopeQ_e, vc_rg, vc_rgq, vc_rga, vc_ite, thenQ_n, thenQ_r, thenQ_e, blockQ_n, blockQ_r, blockQ_e, kKeep_eq, loopQ_r, loopQ_e, loopQ_n, finQ_r, finQ_n, segs_nil, segs_n, segs_g, ops_nil, ops_cons, qsegs_nil, qsegs_n, qsegs_g, qops_nil, qops_cons, ot_done, ot_op, ot_or, List.contains_cons, List.contains_nil, Bool.or_false, Bool.or_true, Bool.true_or, Bool.false_or, vcqOp, vcOp, isRd, RO.isGh, skip_mk, skipL, ev, evL, gvL, scL, look, updL, put_mk, put_mk0, keep_mk, keepL, rowE, rowD, bndN, binV, binC, unV, GV.getT, GV.fld, GV.sz, GV.same, GV.setT, Value.oneCell', cond_true, cond_false, Nat.reduceEqDiff, Nat.reduceAdd, Nat.reduceMul, Nat.reduceSub, Nat.reduceBEq, Nat.reduceLeDiff, ↓reduceIte, reduceCtorEq, List.nil_append, List.cons_append, List.append_nil, Nat.zero_add, Nat.add_zero, Bool.and_true, Bool.true_and, Bool.not_true, Bool.not_false, BEq.rfl, decide_true, decide_false, true_and, and_true, initF, initP, List.map_cons, List.map_nil, Option.map_some, szAll, List.length_cons, List.length_nil, finW_r, finW_n, resL, resOne, Option.bind_some, true_imp_iff, false_imp_iff, Bool.true_eq_false, Bool.false_eq_true, Int.toNat_natCast, Int.reduceToNat, Int.reduceLE, Int.reduceLT, Int.reduceAdd, Int.reduceSub, Int.reduceEq, decide_eq_true_eq, decide_eq_false_iff_not, kill, SV.mentions, ne_eq, not_false_eq_true, not_true_eq_false, List.drop_zero, List.take_succ_cons, List.take_zero, dOk, ↓br_tt, ↓br_ff, ↓br_tf, ↓br_ft, br_t, br_f, Bool.bne_false, Bool.bne_true, GV.bldT, GV.bldC, same_int, getT_nil, setT_nil, getD_gi, List.length_map, fits_s, fits_c, fits_ar, arr_ar, get_nil, gPlace_sz, gPlace_fits, gPlace_isS, gPlace_same, gPlace_fld0, gPlace_get0, gPlace_set0, gPlace_fld1, gPlace_get1, gPlace_set1, gPlace_zero, getD_gPlace, gTreeNode_sz, gTreeNode_fits, gTreeNode_isS, gTreeNode_same, gTreeNode_fld0, gTreeNode_get0, gTreeNode_set0, gTreeNode_fld1, gTreeNode_get1, gTreeNode_set1, gTreeNode_fld2, gTreeNode_get2, gTreeNode_set2, gTreeNode_fld3, gTreeNode_get3, gTreeNode_set3, gTreeNode_zero, getD_gTreeNode, ptr, nptr_some, nptr_none]
  refine ld_of _ (hT.s_map hk) rfl ?_
  simp (maxSteps := 2000000) only [vc_skip, vc_ret, vc_exit, vc_seq, vc_block, vc_scope, scopeQ_n, scopeQ_r, scopeQ_e, vc_rg, vc_rgq, vc_rga, vc_ite, thenQ_n, thenQ_r, thenQ_e, blockQ_n, blockQ_r, blockQ_e, kKeep_eq, loopQ_r, loopQ_e, loopQ_n, finQ_r, finQ_n, segs_nil, segs_n, segs_g, ops_nil, ops_cons, qsegs_nil, qsegs_n, qsegs_g, qops_nil, qops_cons, ot_done, ot_op, ot_or, List.contains_cons, List.contains_nil, Bool.or_false, Bool.or_true, Bool.true_or, Bool.false_or, vcqOp, vcOp, isRd, RO.isGh, skip_mk, skipL, ev, evL, gvL, scL, look, updL, put_mk, put_mk0, keep_mk, keepL, rowE, rowD, bndN, binV, binC, unV, GV.getT, GV.fld, GV.sz, GV.same, GV.setT, Value.oneCell', cond_true, cond_false, Nat.reduceEqDiff, Nat.reduceAdd, Nat.reduceMul, Nat.reduceSub, Nat.reduceBEq, Nat.reduceLeDiff, ↓reduceIte, reduceCtorEq, List.nil_append, List.cons_append, List.append_nil, Nat.zero_add, Nat.add_zero, Bool.and_true, Bool.true_and, Bool.not_true, Bool.not_false, BEq.rfl, decide_true, decide_false, true_and, and_true, initF, initP, List.map_cons, List.map_nil, Option.map_some, szAll, List.length_cons, List.length_nil, finW_r, finW_n, resL, resOne, Option.bind_some, true_imp_iff, false_imp_iff, Bool.true_eq_false, Bool.false_eq_true, Int.toNat_natCast, Int.reduceToNat, Int.reduceLE, Int.reduceLT, Int.reduceAdd, Int.reduceSub, Int.reduceEq, decide_eq_true_eq, decide_eq_false_iff_not, kill, SV.mentions, ne_eq, not_false_eq_true, not_true_eq_false, List.drop_zero, List.take_succ_cons, List.take_zero, dOk, ↓br_tt, ↓br_ff, ↓br_tf, ↓br_ft, br_t, br_f, Bool.bne_false, Bool.bne_true, GV.bldT, GV.bldC, same_int, getT_nil, setT_nil, getD_gi, List.length_map, fits_s, fits_c, fits_ar, arr_ar, get_nil, gPlace_sz, gPlace_fits, gPlace_isS, gPlace_same, gPlace_fld0, gPlace_get0, gPlace_set0, gPlace_fld1, gPlace_get1, gPlace_set1, gPlace_zero, getD_gPlace, gTreeNode_sz, gTreeNode_fits, gTreeNode_isS, gTreeNode_same, gTreeNode_fld0, gTreeNode_get0, gTreeNode_set0, gTreeNode_fld1, gTreeNode_get1, gTreeNode_set1, gTreeNode_fld2, gTreeNode_get2, gTreeNode_set2, gTreeNode_fld3, gTreeNode_get3, gTreeNode_set3, gTreeNode_zero, getD_gTreeNode, ptr, nptr_some, nptr_none]
  refine hT.lk hk n ?_
  cases hx : T.get n with
  | none =>
    simp (maxSteps := 2000000) only [vc_skip, vc_ret, vc_exit, vc_seq, vc_block, vc_scope, scopeQ_n, scopeQ_r, scopeQ_e, vc_rg, vc_rgq, vc_rga, vc_ite, thenQ_n, thenQ_r, thenQ_e, blockQ_n, blockQ_r, blockQ_e, kKeep_eq, loopQ_r, loopQ_e, loopQ_n, finQ_r, finQ_n, segs_nil, segs_n, segs_g, ops_nil, ops_cons, qsegs_nil, qsegs_n, qsegs_g, qops_nil, qops_cons, ot_done, ot_op, ot_or, List.contains_cons, List.contains_nil, Bool.or_false, Bool.or_true, Bool.true_or, Bool.false_or, vcqOp, vcOp, isRd, RO.isGh, skip_mk, skipL, ev, evL, gvL, scL, look, updL, put_mk, put_mk0, keep_mk, keepL, rowE, rowD, bndN, binV, binC, unV, GV.getT, GV.fld, GV.sz, GV.same, GV.setT, Value.oneCell', cond_true, cond_false, Nat.reduceEqDiff, Nat.reduceAdd, Nat.reduceMul, Nat.reduceSub, Nat.reduceBEq, Nat.reduceLeDiff, ↓reduceIte, reduceCtorEq, List.nil_append, List.cons_append, List.append_nil, Nat.zero_add, Nat.add_zero, Bool.and_true, Bool.true_and, Bool.not_true, Bool.not_false, BEq.rfl, decide_true, decide_false, true_and, and_true, initF, initP, List.map_cons, List.map_nil, Option.map_some, szAll, List.length_cons, List.length_nil, finW_r, finW_n, resL, resOne, Option.bind_some, true_imp_iff, false_imp_iff, Bool.true_eq_false, Bool.false_eq_true, Int.toNat_natCast, Int.reduceToNat, Int.reduceLE, Int.reduceLT, Int.reduceAdd, Int.reduceSub, Int.reduceEq, decide_eq_true_eq, decide_eq_false_iff_not, kill, SV.mentions, ne_eq, not_false_eq_true, not_true_eq_false, List.drop_zero, List.take_succ_cons, List.take_zero, dOk, ↓br_tt, ↓br_ff, ↓br_tf, ↓br_ft, br_t, br_f, Bool.bne_false, Bool.bne_true, GV.bldT, GV.bldC, same_int, getT_nil, setT_nil, getD_gi, List.length_map, fits_s, fits_c, fits_ar, arr_ar, get_nil, gPlace_sz, gPlace_fits, gPlace_isS, gPlace_same, gPlace_fld0, gPlace_get0, gPlace_set0, gPlace_fld1, gPlace_get1, gPlace_set1, gPlace_zero, getD_gPlace, gTreeNode_sz, gTreeNode_fits, gTreeNode_isS, gTreeNode_same, gTreeNode_fld0, gTreeNode_get0, gTreeNode_set0, gTreeNode_fld1, gTreeNode_get1, gTreeNode_set1, gTreeNode_fld2, gTreeNode_get2, gTreeNode_set2, gTreeNode_fld3, gTreeNode_get3, gTreeNode_set3, gTreeNode_zero, getD_gTreeNode, ptr, nptr_some, nptr_none]
    refine eq_of eqNode0 ?_
    simp (maxSteps := 2000000) only [vc_skip, vc_ret, vc_exit, vc_seq, vc_block, vc_scope, scopeQ_n, scopeQ_r, scopeQ_e, vc_rg, vc_rgq, vc_rga, vc_ite, thenQ_n, thenQ_r, thenQ_e, blockQ_n, blockQ_r, blockQ_e, kKeep_eq, loopQ_r, loopQ_e, loopQ_n, finQ_r, finQ_n, segs_nil, segs_n, segs_g, ops_nil, ops_cons, qsegs_nil, qsegs_n, qsegs_g, qops_nil, qops_cons, ot_done, ot_op, ot_or, List.contains_cons, List.contains_nil, Bool.or_false, Bool.or_true, Bool.true_or, Bool.false_or, vcqOp, vcOp, isRd, RO.isGh, skip_mk, skipL, ev, evL, gvL, scL, look, updL, put_mk, put_mk0, keep_mk, keepL, rowE, rowD, bndN, binV, binC, unV, GV.getT, GV.fld, GV.sz, GV.same, GV.setT, Value.oneCell', cond_true, cond_false, Nat.reduceEqDiff, Nat.reduceAdd, Nat.reduceMul, Nat.reduceSub, Nat.reduceBEq, Nat.reduceLeDiff, ↓reduceIte, reduceCtorEq, List.nil_append, List.cons_append, List.append_nil, Nat.zero_add, Nat.add_zero, Bool.and_true, Bool.true_and, Bool.not_true, Bool.not_false, BEq.rfl, decide_true, decide_false, true_and, and_true, initF, initP, List.map_cons, List.map_nil, Option.map_some, szAll, List.length_cons, List.length_nil, finW_r, finW_n, resL, resOne, Option.bind_some, true_imp_iff, false_imp_iff, Bool.true_eq_false, Bool.false_eq_true, Int.toNat_natCast, Int.reduceToNat, Int.reduceLE, Int.reduceLT, Int.reduceAdd, Int.reduceSub, Int.reduceEq, decide_eq_true_eq, decide_eq_false_iff_not, kill, SV.mentions, ne_eq, not_false_eq_true, not_true_eq_false, List.drop_zero, List.take_succ_cons, List.take_zero, dOk, ↓br_tt, ↓br_ff, ↓br_tf, ↓br_ft, br_t, br_f, Bool.bne_false, Bool.bne_true, GV.bldT, GV.bldC, same_int, getT_nil, setT_nil, getD_gi, List.length_map, fits_s, fits_c, fits_ar, arr_ar, get_nil, gPlace_sz, gPlace_fits, gPlace_isS, gPlace_same, gPlace_fld0, gPlace_get0, gPlace_set0, gPlace_fld1, gPlace_get1, gPlace_set1, gPlace_zero, getD_gPlace, gTreeNode_sz, gTreeNode_fits, gTreeNode_isS, gTreeNode_same, gTreeNode_fld0, gTreeNode_get0, gTreeNode_set0, gTreeNode_fld1, gTreeNode_get1, gTreeNode_set1, gTreeNode_fld2, gTreeNode_get2, gTreeNode_set2, gTreeNode_fld3, gTreeNode_get3, gTreeNode_set3, gTreeNode_zero, getD_gTreeNode, ptr, nptr_some, nptr_none]
    refine fin_g (rs := [gTreeNode zTreeNode, .s (.bool false)]) rfl ⟨rfl, fun x => trivial⟩
  | some x =>
    simp (maxSteps := 2000000) only [vc_skip, vc_ret, vc_exit, vc_seq, vc_block, vc_scope, scopeQ_n, scopeQ_r, scopeQ_e, vc_rg, vc_rgq, vc_rga, vc_ite, thenQ_n, thenQ_r, thenQ_e, blockQ_n, blockQ_r, blockQ_e, kKeep_eq, loopQ_r, loopQ_e, loopQ_n, finQ_r, finQ_n, segs_nil, segs_n, segs_g, ops_nil, ops_cons, qsegs_nil, qsegs_n, qsegs_g, qops_nil, qops_cons, ot_done, ot_op, ot_or, List.contains_cons, List.contains_nil, Bool.or_false, Bool.or_true, Bool.true_or, Bool.false_or, vcqOp, vcOp, isRd, RO.isGh, skip_mk, skipL, ev, evL, gvL, scL, look, updL, put_mk, put_mk0, keep_mk, keepL, rowE, rowD, bndN, binV, binC, unV, GV.getT, GV.fld, GV.sz, GV.same, GV.setT, Value.oneCell', cond_true, cond_false, Nat.reduceEqDiff, Nat.reduceAdd, Nat.reduceMul, Nat.reduceSub, Nat.reduceBEq, Nat.reduceLeDiff, ↓reduceIte, reduceCtorEq, List.nil_append, List.cons_append, List.append_nil, Nat.zero_add, Nat.add_zero, Bool.and_true, Bool.true_and, Bool.not_true, Bool.not_false, BEq.rfl, decide_true, decide_false, true_and, and_true, initF, initP, List.map_cons, List.map_nil, Option.map_some, szAll, List.length_cons, List.length_nil, finW_r, finW_n, resL, resOne, Option.bind_some, true_imp_iff, false_imp_iff, Bool.true_eq_false, Bool.false_eq_true, Int.toNat_natCast, Int.reduceToNat, Int.reduceLE, Int.reduceLT, Int.reduceAdd, Int.reduceSub, Int.reduceEq, decide_eq_true_eq, decide_eq_false_iff_not, kill, SV.mentions, ne_eq, not_false_eq_true, not_true_eq_false, List.drop_zero, List.take_succ_cons, List.take_zero, dOk, ↓br_tt, ↓br_ff, ↓br_tf, ↓br_ft, br_t, br_f, Bool.bne_false, Bool.bne_true, GV.bldT, GV.bldC, same_int, getT_nil, setT_nil, getD_gi, List.length_map, fits_s, fits_c, fits_ar, arr_ar, get_nil, gPlace_sz, gPlace_fits, gPlace_isS, gPlace_same, gPlace_fld0, gPlace_get0, gPlace_set0, gPlace_fld1, gPlace_get1, gPlace_set1, gPlace_zero, getD_gPlace, gTreeNode_sz, gTreeNode_fits, gTreeNode_isS, gTreeNode_same, gTreeNode_fld0, gTreeNode_get0, gTreeNode_set0, gTreeNode_fld1, gTreeNode_get1, gTreeNode_set1, gTreeNode_fld2, gTreeNode_get2, gTreeNode_set2, gTreeNode_fld3, gTreeNode_get3, gTreeNode_set3, gTreeNode_zero, getD_gTreeNode, ptr, nptr_some, nptr_none]
    refine eq_of (eqNode _) ?_
    simp (maxSteps := 2000000) only [vc_skip, vc_ret, vc_exit, vc_seq, vc_block, vc_scope, scopeQ_n, scopeQ_r, scopeQ_e, vc_rg, vc_rgq, vc_rga, vc_ite, thenQ_n, thenQ_r, thenQ_e, blockQ_n, blockQ_r, blockQ_e, kKeep_eq, loopQ_r, loopQ_e, loopQ_n, finQ_r, finQ_n, segs_nil, segs_n, segs_g, ops_nil, ops_cons, qsegs_nil, qsegs_n, qsegs_g, qops_nil, qops_cons, ot_done, ot_op, ot_or, List.contains_cons, List.contains_nil, Bool.or_false, Bool.or_true, Bool.true_or, Bool.false_or, vcqOp, vcOp, isRd, RO.isGh, skip_mk, skipL, ev, evL, gvL, scL, look, updL, put_mk, put_mk0, keep_mk, keepL, rowE, rowD, bndN, binV, binC, unV, GV.getT, GV.fld, GV.sz, GV.same, GV.setT, Value.oneCell', cond_true, cond_false, Nat.reduceEqDiff, Nat.reduceAdd, Nat.reduceMul, Nat.reduceSub, Nat.reduceBEq, Nat.reduceLeDiff, ↓reduceIte, reduceCtorEq, List.nil_append, List.cons_append, List.append_nil, Nat.zero_add, Nat.add_zero, Bool.and_true, Bool.true_and, Bool.not_true, Bool.not_false, BEq.rfl, decide_true, decide_false, true_and, and_true, initF, initP, List.map_cons, List.map_nil, Option.map_some, szAll, List.length_cons, List.length_nil, finW_r, finW_n, resL, resOne, Option.bind_some, true_imp_iff, false_imp_iff, Bool.true_eq_false, Bool.false_eq_true, Int.toNat_natCast, Int.reduceToNat, Int.reduceLE, Int.reduceLT, Int.reduceAdd, Int.reduceSub, Int.reduceEq, decide_eq_true_eq, decide_eq_false_iff_not, kill, SV.mentions, ne_eq, not_false_eq_true, not_true_eq_false, List.drop_zero, List.take_succ_cons, List.take_zero, dOk, ↓br_tt, ↓br_ff, ↓br_tf, ↓br_ft, br_t, br_f, Bool.bne_false, Bool.bne_true, GV.bldT, GV.bldC, same_int, getT_nil, setT_nil, getD_gi, List.length_map, fits_s, fits_c, fits_ar, arr_ar, get_nil, gPlace_sz, gPlace_fits, gPlace_isS, gPlace_same, gPlace_fld0, gPlace_get0, gPlace_set0, gPlace_fld1, gPlace_get1, gPlace_set1, gPlace_zero, getD_gPlace, gTreeNode_sz, gTreeNode_fits, gTreeNode_isS, gTreeNode_same, gTreeNode_fld0, gTreeNode_get0, gTreeNode_set0, gTreeNode_fld1, gTreeNode_get1, gTreeNode_set1, gTreeNode_fld2, gTreeNode_get2, gTreeNode_set2, gTreeNode_fld3, gTreeNode_get3, gTreeNode_set3, gTreeNode_zero, getD_gTreeNode, ptr, nptr_some, nptr_none]
    refine call_ownm rfl rfl (Q := fun rs m' => ∃ v, rs = [gTreeNode ⟨n, x.parent, x.name, v⟩] ∧ SlO m' v 55 2 ((attrsOf x).map gAttr)) (fun w' vs hv hw _ _ => ?_) fun rs m1 _ hq _ => ?_
    · obtain ⟨vs, rfl, _, hv⟩ := argsV_g hv
      obtain ⟨vs, rfl, _, hv⟩ := argsV_g hv
      obtain rfl := argsV_nil hv
      exact told_spec w' u (fun b o h => hw b o (by rw [u0_no]; exact hu b o h)) L T hT n x hx (hsm x hx)
    obtain ⟨v, rfl, hv⟩ := hq
    simp (maxSteps := 2000000) only [retS, uni_no_r, vc_skip, vc_ret, vc_exit, vc_seq, vc_block, vc_scope, scopeQ_n, scopeQ_r, scopeQ_e, vc_rg, vc_rgq, vc_rga, vc_ite, thenQ_n, thenQ_r, thenQ_e, blockQ_n, blockQ_r, blockQ_e, kKeep_eq, loopQ_r, loopQ_e, loopQ_n, finQ_r, finQ_n, segs_nil, segs_n, segs_g, ops_nil, ops_cons, qsegs_nil, qsegs_n, qsegs_g, qops_nil, qops_cons, ot_done, ot_op, ot_or, List.contains_cons, List.contains_nil, Bool.or_false, Bool.or_true, Bool.true_or, Bool.false_or, vcqOp, vcOp, isRd, RO.isGh, skip_mk, skipL, ev, evL, gvL, scL, look, updL, put_mk, put_mk0, keep_mk, keepL, rowE, rowD, bndN, binV, binC, unV, GV.getT, GV.fld, GV.sz, GV.same, GV.setT, Value.oneCell', cond_true, cond_false, Nat.reduceEqDiff, Nat.reduceAdd, Nat.reduceMul, Nat.reduceSub, Nat.reduceBEq, Nat.reduceLeDiff, ↓reduceIte, reduceCtorEq, List.nil_append, List.cons_append, List.append_nil, Nat.zero_add, Nat.add_zero, Bool.and_true, Bool.true_and, Bool.not_true, Bool.not_false, BEq.rfl, decide_true, decide_false, true_and, and_true, initF, initP, List.map_cons, List.map_nil, Option.map_some, szAll, List.length_cons, List.length_nil, finW_r, finW_n, resL, resOne, Option.bind_some, true_imp_iff, false_imp_iff, Bool.true_eq_false, Bool.false_eq_true, Int.toNat_natCast, Int.reduceToNat, Int.reduceLE, Int.reduceLT, Int.reduceAdd, Int.reduceSub, Int.reduceEq, decide_eq_true_eq, decide_eq_false_iff_not, kill, SV.mentions, ne_eq, not_false_eq_true, not_true_eq_false, List.drop_zero, List.take_succ_cons, List.take_zero, dOk, ↓br_tt, ↓br_ff, ↓br_tf, ↓br_ft, br_t, br_f, Bool.bne_false, Bool.bne_true, GV.bldT, GV.bldC, same_int, getT_nil, setT_nil, getD_gi, List.length_map, fits_s, fits_c, fits_ar, arr_ar, get_nil, gPlace_sz, gPlace_fits, gPlace_isS, gPlace_same, gPlace_fld0, gPlace_get0, gPlace_set0, gPlace_fld1, gPlace_get1, gPlace_set1, gPlace_zero, getD_gPlace, gTreeNode_sz, gTreeNode_fits, gTreeNode_isS, gTreeNode_same, gTreeNode_fld0, gTreeNode_get0, gTreeNode_set0, gTreeNode_fld1, gTreeNode_get1, gTreeNode_set1, gTreeNode_fld2, gTreeNode_get2, gTreeNode_set2, gTreeNode_fld3, gTreeNode_get3, gTreeNode_set3, gTreeNode_zero, getD_gTreeNode, ptr, nptr_some, nptr_none]
    refine fin_m (rs := [gTreeNode ⟨n, x.parent, x.name, v⟩, .s (.bool true)]) _ rfl (fun _ _ h => h) fun y hy => ?_
    cases hy
    exact ⟨v, rfl, hv⟩
theorem BelowX_spec (hu : u.le w) (hT : TM u L T) (n a : Int) (hl : T.nodes.length < 9223372036854775800) : Spec Tryz.prog f_tree_Tree_Below [ptr (L .t), .int .i64 n, .int .i64 a] PH.no w fun rs _ => rs = [.s (.bool (T.has n && T.has a && T.below n a))] := by
  refine spec_val k_tree_Tree_Below (Qf := fun rs => rs = [.s (.bool (T.has n && T.has a && T.below n a))]) [.g (.s (ptr (L .t))), .g (.s (.int .i64 n)), .g (.s (.int .i64 a))] (by simp) (by simp [AV.ok, GV.ok, Value.oneCell', ptr]) ?_
  have hk : ∀ {l : List PH}, KN (⟨Tryz.prog, 34, w, PH.no⟩ : Ctx).u0 l u := kn_u hu
  simp (maxSteps := 2000000) only [c_tree_Tree_Below, vc_skip, vc_ret, vc_exit, vc_seq, vc_block, vc_scope, scopeQ_n, scopeQ_r, scopeQ_e, vc_rg, vc_rgq, vc_rga, vc_ite, thenQ_n, thenQ_r, thenQ_e, blockQ_n, blockQ_r, blockQ_e, kKeep_eq, loopQ_r, loopQ_e, loopQ_n, finQ_r, finQ_n, segs_nil, segs_n, segs_g, ops_nil, ops_cons, qsegs_nil, qsegs_n, qsegs_g, qops_nil, qops_cons, ot_done, ot_op, ot_or, List.contains_cons, List.contains_nil, Bool.or_false, Bool.or_true, Bool.true_or, Bool.false_or, vcqOp, vcOp, isRd, RO.isGh, skip_mk, skipL, ev, evL, gvL, scL, look, updL, put_mk, put_mk0, keep_mk, keepL, rowE, rowD, bndN, binV, binC, unV, GV.getT, GV.fld, GV.sz, GV.same, GV.setT, Value.oneCell', cond_true, cond_false, Nat.reduceEqDiff, Nat.reduceAdd, Nat.reduceMul, Nat.reduceSub, Nat.reduceBEq, Nat.reduceLeDiff, ↓reduceIte, reduceCtorEq, List.nil_append, List.cons_append, List.append_nil, Nat.zero_add, Nat.add_zero, Bool.and_true, Bool.true_and, Bool.not_true, Bool.not_false, BEq.rfl, decide_true, decide_false, true_and, and_true, initF, initP, List.map_cons, List.map_nil, Option.map_some, szAll, List.length_cons, List.length_nil, finW_r, finW_n, resL, resOne, Option.bind_some, true_imp_iff, false_imp_iff, Bool.true_eq_false, Bool.false_eq_true, Int.toNat_natCast, Int.reduceToNat, Int.reduceLE, Int.reduceLT, Int.reduceAdd, Int.reduceSub, Int.reduceEq, decide_eq_true_eq, decide_eq_false_iff_not, kill, SV.mentions, ne_eq, not_false_eq_true, not_true_eq_false, List.drop_zero, List.take_succ_cons, List.take_zero, dOk, ↓br_tt, ↓br_ff, ↓br_tf, ↓br_ft, br_t, br_f, Bool.bne_false, Bool.bne_true, GV.bldT, GV.bldC, same_int, getT_nil, setT_nil, getD_gi, List.length_map, fits_s, fits_c, fits_ar, arr_ar, get_nil, gPlace_sz, gPlace_fits, gPlace_isS, gPlace_same, gPlace_fld0, gPlace_get0, gPlace_set0, gPlace_fld1, gPlace_get1, gPlace_set1, gPlace_zero, getD_gPlace, gTreeNode_sz, gTreeNode_fits, gTreeNode_isS, gTreeNode_same, gTreeNode_fld0, gTreeNode_get0, gTreeNode_set0, gTreeNode_fld1, gTreeNode_get1, gTreeNode_set1, gTreeNode_fld2, gTreeNode_get2, gTreeNode_set2, gTreeNode_fld3, gTreeNode_get3, gTreeNode_set3, gTreeNode_zero, getD_gTreeNode, ptr, nptr_some, nptr_none]
  refine call_is _ [.s (.bool false)] rfl rfl (fun w' vs hv hw => ?_) ?_
  · obtain ⟨vs, rfl, _, hv⟩ := argsV_g hv
    obtain rfl := argsV_nil hv
    intro _
    exact none_spec (fun b o h => hw b o (by rw [u0_no]; exact hu b o h)) hT
  simp (maxSteps := 2000000) only [retS, vc_skip, vc_ret, vc_exit, vc_seq, vc_block, vc_scope, scopeQ_n, scopeQ_r, scopeQ_e, vc_rg, vc_rgq, vc_rga, vc_ite, thenQ_n, thenQ_r, thenQ_e, blockQ_n, blockQ_r, blockQ_e, kKeep_eq, loopQ_r, loopQ_e, loopQ_n, finQ_r, finQ_n, segs_nil, segs_n, segs_g, ops_nil, ops_cons, qsegs_nil, qsegs_n, qsegs_g, qops_nil, qops_cons, ot_done, ot_op, ot_or, List.contains_cons, List.contains_nil, Bool.or_false, Bool.or_true, Bool.true_or, Bool.false_or, vcqOp, vcOp, isRd, RO.isGh, skip_mk, skipL, ev, evL, gvL, scL, look, updL, put_mk, put_mk0, keep_mk, keepL, rowE, rowD, bndN, binV, binC, unV, GV.getT, GV.fld, GV.sz, GV.same, GV.setT, Value.oneCell', cond_true, cond_false, Nat.reduceEqDiff, Nat.reduceAdd, Nat.reduceMul, Nat.reduceSub, Nat.reduceBEq, Nat.reduceLeDiff, ↓reduceIte, reduceCtorEq, List.nil_append, List.cons_append, List.append_nil, Nat.zero_add, Nat.add_zero, Bool.and_true, Bool.true_and, Bool.not_true, Bool.not_false, BEq.rfl, decide_true, decide_false, true_and, and_true, initF, initP, List.map_cons, List.map_nil, Option.map_some, szAll, List.length_cons, List.length_nil, finW_r, finW_n, resL, resOne, Option.bind_some, true_imp_iff, false_imp_iff, Bool.true_eq_false, Bool.false_eq_true, Int.toNat_natCast, Int.reduceToNat, Int.reduceLE, Int.reduceLT, Int.reduceAdd, Int.reduceSub, Int.reduceEq, decide_eq_true_eq, decide_eq_false_iff_not, kill, SV.mentions, ne_eq, not_false_eq_true, not_true_eq_false, List.drop_zero, List.take_succ_cons, List.take_zero, dOk, ↓br_tt, ↓br_ff, ↓br_tf, ↓br_ft, br_t, br_f, Bool.bne_false, Bool.bne_true, GV.bldT, GV.bldC, same_int, getT_nil, setT_nil, getD_gi, List.length_map, fits_s, fits_c, fits_ar, arr_ar, get_nil, gPlace_sz, gPlace_fits, gPlace_isS, gPlace_same, gPlace_fld0, gPlace_get0, gPlace_set0, gPlace_fld1, gPlace_get1, gPlace_set1, gPlace_zero, getD_gPlace, gTreeNode_sz, gTreeNode_fits, gTreeNode_isS, gTreeNode_same, gTreeNode_fld0, gTreeNode_get0, gTreeNode_set0, gTreeNode_fld1, gTreeNode_get1, gTreeNode_set1, gTreeNode_fld2, gTreeNode_get2, gTreeNode_set2, gTreeNode_fld3, gTreeNode_get3, gTreeNode_set3, gTreeNode_zero, getD_gTreeNode, ptr, nptr_some, nptr_none]
  refine ld_of _ (hT.s_map hk) rfl ?_
  simp (maxSteps := 2000000) only [vc_skip, vc_ret, vc_exit, vc_seq, vc_block, vc_scope, scopeQ_n, scopeQ_r, scopeQ_e, vc_rg, vc_rgq, vc_rga, vc_ite, thenQ_n, thenQ_r, thenQ_e, blockQ_n, blockQ_r, blockQ_e, kKeep_eq, loopQ_r, loopQ_e, loopQ_n, finQ_r, finQ_n, segs_nil, segs_n, segs_g, ops_nil, ops_cons, qsegs_nil, qsegs_n, qsegs_g, qops_nil, qops_cons, ot_done, ot_op, ot_or, List.contains_cons, List.contains_nil, Bool.or_false, Bool.or_true, Bool.true_or, Bool.false_or, vcqOp, vcOp, isRd, RO.isGh, skip_mk, skipL, ev, evL, gvL, scL, look, updL, put_mk, put_mk0, keep_mk, keepL, rowE, rowD, bndN, binV, binC, unV, GV.getT, GV.fld, GV.sz, GV.same, GV.setT, Value.oneCell', cond_true, cond_false, Nat.reduceEqDiff, Nat.reduceAdd, Nat.reduceMul, Nat.reduceSub, Nat.reduceBEq, Nat.reduceLeDiff, ↓reduceIte, reduceCtorEq, List.nil_append, List.cons_append, List.append_nil, Nat.zero_add, Nat.add_zero, Bool.and_true, Bool.true_and, Bool.not_true, Bool.not_false, BEq.rfl, decide_true, decide_false, true_and, and_true, initF, initP, List.map_cons, List.map_nil, Option.map_some, szAll, List.length_cons, List.length_nil, finW_r, finW_n, resL, resOne, Option.bind_some, true_imp_iff, false_imp_iff, Bool.true_eq_false, Bool.false_eq_true, Int.toNat_natCast, Int.reduceToNat, Int.reduceLE, Int.reduceLT, Int.reduceAdd, Int.reduceSub, Int.reduceEq, decide_eq_true_eq, decide_eq_false_iff_not, kill, SV.mentions, ne_eq, not_false_eq_true, not_true_eq_false, List.drop_zero, List.take_succ_cons, List.take_zero, dOk, ↓br_tt, ↓br_ff, ↓br_tf, ↓br_ft, br_t, br_f, Bool.bne_false, Bool.bne_true, GV.bldT, GV.bldC, same_int, getT_nil, setT_nil, getD_gi, List.length_map, fits_s, fits_c, fits_ar, arr_ar, get_nil, gPlace_sz, gPlace_fits, gPlace_isS, gPlace_same, gPlace_fld0, gPlace_get0, gPlace_set0, gPlace_fld1, gPlace_get1, gPlace_set1, gPlace_zero, getD_gPlace, gTreeNode_sz, gTreeNode_fits, gTreeNode_isS, gTreeNode_same, gTreeNode_fld0, gTreeNode_get0, gTreeNode_set0, gTreeNode_fld1, gTreeNode_get1, gTreeNode_set1, gTreeNode_fld2, gTreeNode_get2, gTreeNode_set2, gTreeNode_fld3, gTreeNode_get3, gTreeNode_set3, gTreeNode_zero, getD_gTreeNode, ptr, nptr_some, nptr_none]
  refine hT.lk hk n ?_
  cases hx : T.get n with
  | none =>
    simp (maxSteps := 2000000) only [vc_skip, vc_ret, vc_exit, vc_seq, vc_block, vc_scope, scopeQ_n, scopeQ_r, scopeQ_e, vc_rg, vc_rgq, vc_rga, vc_ite, thenQ_n, thenQ_r, thenQ_e, blockQ_n, blockQ_r, blockQ_e, kKeep_eq, loopQ_r, loopQ_e, loopQ_n, finQ_r, finQ_n, segs_nil, segs_n, segs_g, ops_nil, ops_cons, qsegs_nil, qsegs_n, qsegs_g, qops_nil, qops_cons, ot_done, ot_op, ot_or, List.contains_cons, List.contains_nil, Bool.or_false, Bool.or_true, Bool.true_or, Bool.false_or, vcqOp, vcOp, isRd, RO.isGh, skip_mk, skipL, ev, evL, gvL, scL, look, updL, put_mk, put_mk0, keep_mk, keepL, rowE, rowD, bndN, binV, binC, unV, GV.getT, GV.fld, GV.sz, GV.same, GV.setT, Value.oneCell', cond_true, cond_false, Nat.reduceEqDiff, Nat.reduceAdd, Nat.reduceMul, Nat.reduceSub, Nat.reduceBEq, Nat.reduceLeDiff, ↓reduceIte, reduceCtorEq, List.nil_append, List.cons_append, List.append_nil, Nat.zero_add, Nat.add_zero, Bool.and_true, Bool.true_and, Bool.not_true, Bool.not_false, BEq.rfl, decide_true, decide_false, true_and, and_true, initF, initP, List.map_cons, List.map_nil, Option.map_some, szAll, List.length_cons, List.length_nil, finW_r, finW_n, resL, resOne, Option.bind_some, true_imp_iff, false_imp_iff, Bool.true_eq_false, Bool.false_eq_true, Int.toNat_natCast, Int.reduceToNat, Int.reduceLE, Int.reduceLT, Int.reduceAdd, Int.reduceSub, Int.reduceEq, decide_eq_true_eq, decide_eq_false_iff_not, kill, SV.mentions, ne_eq, not_false_eq_true, not_true_eq_false, List.drop_zero, List.take_succ_cons, List.take_zero, dOk, ↓br_tt, ↓br_ff, ↓br_tf, ↓br_ft, br_t, br_f, Bool.bne_false, Bool.bne_true, GV.bldT, GV.bldC, same_int, getT_nil, setT_nil, getD_gi, List.length_map, fits_s, fits_c, fits_ar, arr_ar, get_nil, gPlace_sz, gPlace_fits, gPlace_isS, gPlace_same, gPlace_fld0, gPlace_get0, gPlace_set0, gPlace_fld1, gPlace_get1, gPlace_set1, gPlace_zero, getD_gPlace, gTreeNode_sz, gTreeNode_fits, gTreeNode_isS, gTreeNode_same, gTreeNode_fld0, gTreeNode_get0, gTreeNode_set0, gTreeNode_fld1, gTreeNode_get1, gTreeNode_set1, gTreeNode_fld2, gTreeNode_get2, gTreeNode_set2, gTreeNode_fld3, gTreeNode_get3, gTreeNode_set3, gTreeNode_zero, getD_gTreeNode, ptr, nptr_some, nptr_none]
    refine eq_of eqNode0 ?_
    simp (maxSteps := 2000000) only [vc_skip, vc_ret, vc_exit, vc_seq, vc_block, vc_scope, scopeQ_n, scopeQ_r, scopeQ_e, vc_rg, vc_rgq, vc_rga, vc_ite, thenQ_n, thenQ_r, thenQ_e, blockQ_n, blockQ_r, blockQ_e, kKeep_eq, loopQ_r, loopQ_e, loopQ_n, finQ_r, finQ_n, segs_nil, segs_n, segs_g, ops_nil, ops_cons, qsegs_nil, qsegs_n, qsegs_g, qops_nil, qops_cons, ot_done, ot_op, ot_or, List.contains_cons, List.contains_nil, Bool.or_false, Bool.or_true, Bool.true_or, Bool.false_or, vcqOp, vcOp, isRd, RO.isGh, skip_mk, skipL, ev, evL, gvL, scL, look, updL, put_mk, put_mk0, keep_mk, keepL, rowE, rowD, bndN, binV, binC, unV, GV.getT, GV.fld, GV.sz, GV.same, GV.setT, Value.oneCell', cond_true, cond_false, Nat.reduceEqDiff, Nat.reduceAdd, Nat.reduceMul, Nat.reduceSub, Nat.reduceBEq, Nat.reduceLeDiff, ↓reduceIte, reduceCtorEq, List.nil_append, List.cons_append, List.append_nil, Nat.zero_add, Nat.add_zero, Bool.and_true, Bool.true_and, Bool.not_true, Bool.not_false, BEq.rfl, decide_true, decide_false, true_and, and_true, initF, initP, List.map_cons, List.map_nil, Option.map_some, szAll, List.length_cons, List.length_nil, finW_r, finW_n, resL, resOne, Option.bind_some, true_imp_iff, false_imp_iff, Bool.true_eq_false, Bool.false_eq_true, Int.toNat_natCast, Int.reduceToNat, Int.reduceLE, Int.reduceLT, Int.reduceAdd, Int.reduceSub, Int.reduceEq, decide_eq_true_eq, decide_eq_false_iff_not, kill, SV.mentions, ne_eq, not_false_eq_true, not_true_eq_false, List.drop_zero, List.take_succ_cons, List.take_zero, dOk, ↓br_tt, ↓br_ff, ↓br_tf, ↓br_ft, br_t, br_f, Bool.bne_false, Bool.bne_true, GV.bldT, GV.bldC, same_int, getT_nil, setT_nil, getD_gi, List.length_map, fits_s, fits_c, fits_ar, arr_ar, get_nil, gPlace_sz, gPlace_fits, gPlace_isS, gPlace_same, gPlace_fld0, gPlace_get0, gPlace_set0, gPlace_fld1, gPlace_get1, gPlace_set1, gPlace_zero, getD_gPlace, gTreeNode_sz, gTreeNode_fits, gTreeNode_isS, gTreeNode_same, gTreeNode_fld0, gTreeNode_get0, gTreeNode_set0, gTreeNode_fld1, gTreeNode_get1, gTreeNode_set1, gTreeNode_fld2, gTreeNode_get2, gTreeNode_set2, gTreeNode_fld3, gTreeNode_get3, gTreeNode_set3, gTreeNode_zero, getD_gTreeNode, ptr, nptr_some, nptr_none]
    rw [show T.has n = false by rw [PT.has, hx]; rfl]; rfl
  | some x =>
    simp (maxSteps := 2000000) only [vc_skip, vc_ret, vc_exit, vc_seq, vc_block, vc_scope, scopeQ_n, scopeQ_r, scopeQ_e, vc_rg, vc_rgq, vc_rga, vc_ite, thenQ_n, thenQ_r, thenQ_e, blockQ_n, blockQ_r, blockQ_e, kKeep_eq, loopQ_r, loopQ_e, loopQ_n, finQ_r, finQ_n, segs_nil, segs_n, segs_g, ops_nil, ops_cons, qsegs_nil, qsegs_n, qsegs_g, qops_nil, qops_cons, ot_done, ot_op, ot_or, List.contains_cons, List.contains_nil, Bool.or_false, Bool.or_true, Bool.true_or, Bool.false_or, vcqOp, vcOp, isRd, RO.isGh, skip_mk, skipL, ev, evL, gvL, scL, look, updL, put_mk, put_mk0, keep_mk, keepL, rowE, rowD, bndN, binV, binC, unV, GV.getT, GV.fld, GV.sz, GV.same, GV.setT, Value.oneCell', cond_true, cond_false, Nat.reduceEqDiff, Nat.reduceAdd, Nat.reduceMul, Nat.reduceSub, Nat.reduceBEq, Nat.reduceLeDiff, ↓reduceIte, reduceCtorEq, List.nil_append, List.cons_append, List.append_nil, Nat.zero_add, Nat.add_zero, Bool.and_true, Bool.true_and, Bool.not_true, Bool.not_false, BEq.rfl, decide_true, decide_false, true_and, and_true, initF, initP, List.map_cons, List.map_nil, Option.map_some, szAll, List.length_cons, List.length_nil, finW_r, finW_n, resL, resOne, Option.bind_some, true_imp_iff, false_imp_iff, Bool.true_eq_false, Bool.false_eq_true, Int.toNat_natCast, Int.reduceToNat, Int.reduceLE, Int.reduceLT, Int.reduceAdd, Int.reduceSub, Int.reduceEq, decide_eq_true_eq, decide_eq_false_iff_not, kill, SV.mentions, ne_eq, not_false_eq_true, not_true_eq_false, List.drop_zero, List.take_succ_cons, List.take_zero, dOk, ↓br_tt, ↓br_ff, ↓br_tf, ↓br_ft, br_t, br_f, Bool.bne_false, Bool.bne_true, GV.bldT, GV.bldC, same_int, getT_nil, setT_nil, getD_gi, List.length_map, fits_s, fits_c, fits_ar, arr_ar, get_nil, gPlace_sz, gPlace_fits, gPlace_isS, gPlace_same, gPlace_fld0, gPlace_get0, gPlace_set0, gPlace_fld1, gPlace_get1, gPlace_set1, gPlace_zero, getD_gPlace, gTreeNode_sz, gTreeNode_fits, gTreeNode_isS, gTreeNode_same, gTreeNode_fld0, gTreeNode_get0, gTreeNode_set0, gTreeNode_fld1, gTreeNode_get1, gTreeNode_set1, gTreeNode_fld2, gTreeNode_get2, gTreeNode_set2, gTreeNode_fld3, gTreeNode_get3, gTreeNode_set3, gTreeNode_zero, getD_gTreeNode, ptr, nptr_some, nptr_none]
    refine eq_of (eqNode _) ?_
    simp (maxSteps := 2000000) only [vc_skip, vc_ret, vc_exit, vc_seq, vc_block, vc_scope, scopeQ_n, scopeQ_r, scopeQ_e, vc_rg, vc_rgq, vc_rga, vc_ite, thenQ_n, thenQ_r, thenQ_e, blockQ_n, blockQ_r, blockQ_e, kKeep_eq, loopQ_r, loopQ_e, loopQ_n, finQ_r, finQ_n, segs_nil, segs_n, segs_g, ops_nil, ops_cons, qsegs_nil, qsegs_n, qsegs_g, qops_nil, qops_cons, ot_done, ot_op, ot_or, List.contains_cons, List.contains_nil, Bool.or_false, Bool.or_true, Bool.true_or, Bool.false_or, vcqOp, vcOp, isRd, RO.isGh, skip_mk, skipL, ev, evL, gvL, scL, look, updL, put_mk, put_mk0, keep_mk, keepL, rowE, rowD, bndN, binV, binC, unV, GV.getT, GV.fld, GV.sz, GV.same, GV.setT, Value.oneCell', cond_true, cond_false, Nat.reduceEqDiff, Nat.reduceAdd, Nat.reduceMul, Nat.reduceSub, Nat.reduceBEq, Nat.reduceLeDiff, ↓reduceIte, reduceCtorEq, List.nil_append, List.cons_append, List.append_nil, Nat.zero_add, Nat.add_zero, Bool.and_true, Bool.true_and, Bool.not_true, Bool.not_false, BEq.rfl, decide_true, decide_false, true_and, and_true, initF, initP, List.map_cons, List.map_nil, Option.map_some, szAll, List.length_cons, List.length_nil, finW_r, finW_n, resL, resOne, Option.bind_some, true_imp_iff, false_imp_iff, Bool.true_eq_false, Bool.false_eq_true, Int.toNat_natCast, Int.reduceToNat, Int.reduceLE, Int.reduceLT, Int.reduceAdd, Int.reduceSub, Int.reduceEq, decide_eq_true_eq, decide_eq_false_iff_not, kill, SV.mentions, ne_eq, not_false_eq_true, not_true_eq_false, List.drop_zero, List.take_succ_cons, List.take_zero, dOk, ↓br_tt, ↓br_ff, ↓br_tf, ↓br_ft, br_t, br_f, Bool.bne_false, Bool.bne_true, GV.bldT, GV.bldC, same_int, getT_nil, setT_nil, getD_gi, List.length_map, fits_s, fits_c, fits_ar, arr_ar, get_nil, gPlace_sz, gPlace_fits, gPlace_isS, gPlace_same, gPlace_fld0, gPlace_get0, gPlace_set0, gPlace_fld1, gPlace_get1, gPlace_set1, gPlace_zero, getD_gPlace, gTreeNode_sz, gTreeNode_fits, gTreeNode_isS, gTreeNode_same, gTreeNode_fld0, gTreeNode_get0, gTreeNode_set0, gTreeNode_fld1, gTreeNode_get1, gTreeNode_set1, gTreeNode_fld2, gTreeNode_get2, gTreeNode_set2, gTreeNode_fld3, gTreeNode_get3, gTreeNode_set3, gTreeNode_zero, getD_gTreeNode, ptr, nptr_some, nptr_none]
    refine ld_of _ (hT.s_map hk) rfl ?_
    simp (maxSteps := 2000000) only [vc_skip, vc_ret, vc_exit, vc_seq, vc_block, vc_scope, scopeQ_n, scopeQ_r, scopeQ_e, vc_rg, vc_rgq, vc_rga, vc_ite, thenQ_n, thenQ_r, thenQ_e, blockQ_n, blockQ_r, blockQ_e, kKeep_eq, loopQ_r, loopQ_e, loopQ_n, finQ_r, finQ_n, segs_nil, segs_n, segs_g, ops_nil, ops_cons, qsegs_nil, qsegs_n, qsegs_g, qops_nil, qops_cons, ot_done, ot_op, ot_or, List.contains_cons, List.contains_nil, Bool.or_false, Bool.or_true, Bool.true_or, Bool.false_or, vcqOp, vcOp, isRd, RO.isGh, skip_mk, skipL, ev, evL, gvL, scL, look, updL, put_mk, put_mk0, keep_mk, keepL, rowE, rowD, bndN, binV, binC, unV, GV.getT, GV.fld, GV.sz, GV.same, GV.setT, Value.oneCell', cond_true, cond_false, Nat.reduceEqDiff, Nat.reduceAdd, Nat.reduceMul, Nat.reduceSub, Nat.reduceBEq, Nat.reduceLeDiff, ↓reduceIte, reduceCtorEq, List.nil_append, List.cons_append, List.append_nil, Nat.zero_add, Nat.add_zero, Bool.and_true, Bool.true_and, Bool.not_true, Bool.not_false, BEq.rfl, decide_true, decide_false, true_and, and_true, initF, initP, List.map_cons, List.map_nil, Option.map_some, szAll, List.length_cons, List.length_nil, finW_r, finW_n, resL, resOne, Option.bind_some, true_imp_iff, false_imp_iff, Bool.true_eq_false, Bool.false_eq_true, Int.toNat_natCast, Int.reduceToNat, Int.reduceLE, Int.reduceLT, Int.reduceAdd, Int.reduceSub, Int.reduceEq, decide_eq_true_eq, decide_eq_false_iff_not, kill, SV.mentions, ne_eq, not_false_eq_true, not_true_eq_false, List.drop_zero, List.take_succ_cons, List.take_zero, dOk, ↓br_tt, ↓br_ff, ↓br_tf, ↓br_ft, br_t, br_f, Bool.bne_false, Bool.bne_true, GV.bldT, GV.bldC, same_int, getT_nil, setT_nil, getD_gi, List.length_map, fits_s, fits_c, fits_ar, arr_ar, get_nil, gPlace_sz, gPlace_fits, gPlace_isS, gPlace_same, gPlace_fld0, gPlace_get0, gPlace_set0, gPlace_fld1, gPlace_get1, gPlace_set1, gPlace_zero, getD_gPlace, gTreeNode_sz, gTreeNode_fits, gTreeNode_isS, gTreeNode_same, gTreeNode_fld0, gTreeNode_get0, gTreeNode_set0, gTreeNode_fld1, gTreeNode_get1, gTreeNode_set1, gTreeNode_fld2, gTreeNode_get2, gTreeNode_set2, gTreeNode_fld3, gTreeNode_get3, gTreeNode_set3, gTreeNode_zero, getD_gTreeNode, ptr, nptr_some, nptr_none]
    refine hT.lk hk a ?_
    cases hy : T.get a with
    | none =>
      simp (maxSteps := 2000000) only [vc_skip, vc_ret, vc_exit, vc_seq, vc_block, vc_scope, scopeQ_n, scopeQ_r, scopeQ_e, vc_rg, vc_rgq, vc_rga, vc_ite, thenQ_n, thenQ_r, thenQ_e, blockQ_n, blockQ_r, blockQ_e, kKeep_eq, loopQ_r, loopQ_e, loopQ_n, finQ_r, finQ_n, segs_nil, segs_n, segs_g, ops_nil, ops_cons, qsegs_nil, qsegs_n, qsegs_g, qops_nil, qops_cons, ot_done, ot_op, ot_or, List.contains_cons, List.contains_nil, Bool.or_false, Bool.or_true, Bool.true_or, Bool.false_or, vcqOp, vcOp, isRd, RO.isGh, skip_mk, skipL, ev, evL, gvL, scL, look, updL, put_mk, put_mk0, keep_mk, keepL, rowE, rowD, bndN, binV, binC, unV, GV.getT, GV.fld, GV.sz, GV.same, GV.setT, Value.oneCell', cond_true, cond_false, Nat.reduceEqDiff, Nat.reduceAdd, Nat.reduceMul, Nat.reduceSub, Nat.reduceBEq, Nat.reduceLeDiff, ↓reduceIte, reduceCtorEq, List.nil_append, List.cons_append, List.append_nil, Nat.zero_add, Nat.add_zero, Bool.and_true, Bool.true_and, Bool.not_true, Bool.not_false, BEq.rfl, decide_true, decide_false, true_and, and_true, initF, initP, List.map_cons, List.map_nil, Option.map_some, szAll, List.length_cons, List.length_nil, finW_r, finW_n, resL, resOne, Option.bind_some, true_imp_iff, false_imp_iff, Bool.true_eq_false, Bool.false_eq_true, Int.toNat_natCast, Int.reduceToNat, Int.reduceLE, Int.reduceLT, Int.reduceAdd, Int.reduceSub, Int.reduceEq, decide_eq_true_eq, decide_eq_false_iff_not, kill, SV.mentions, ne_eq, not_false_eq_true, not_true_eq_false, List.drop_zero, List.take_succ_cons, List.take_zero, dOk, ↓br_tt, ↓br_ff, ↓br_tf, ↓br_ft, br_t, br_f, Bool.bne_false, Bool.bne_true, GV.bldT, GV.bldC, same_int, getT_nil, setT_nil, getD_gi, List.length_map, fits_s, fits_c, fits_ar, arr_ar, get_nil, gPlace_sz, gPlace_fits, gPlace_isS, gPlace_same, gPlace_fld0, gPlace_get0, gPlace_set0, gPlace_fld1, gPlace_get1, gPlace_set1, gPlace_zero, getD_gPlace, gTreeNode_sz, gTreeNode_fits, gTreeNode_isS, gTreeNode_same, gTreeNode_fld0, gTreeNode_get0, gTreeNode_set0, gTreeNode_fld1, gTreeNode_get1, gTreeNode_set1, gTreeNode_fld2, gTreeNode_get2, gTreeNode_set2, gTreeNode_fld3, gTreeNode_get3, gTreeNode_set3, gTreeNode_zero, getD_gTreeNode, ptr, nptr_some, nptr_none]
      refine eq_of eqNode0 ?_
      simp (maxSteps := 2000000) only [vc_skip, vc_ret, vc_exit, vc_seq, vc_block, vc_scope, scopeQ_n, scopeQ_r, scopeQ_e, vc_rg, vc_rgq, vc_rga, vc_ite, thenQ_n, thenQ_r, thenQ_e, blockQ_n, blockQ_r, blockQ_e, kKeep_eq, loopQ_r, loopQ_e, loopQ_n, finQ_r, finQ_n, segs_nil, segs_n, segs_g, ops_nil, ops_cons, qsegs_nil, qsegs_n, qsegs_g, qops_nil, qops_cons, ot_done, ot_op, ot_or, List.contains_cons, List.contains_nil, Bool.or_false, Bool.or_true, Bool.true_or, Bool.false_or, vcqOp, vcOp, isRd, RO.isGh, skip_mk, skipL, ev, evL, gvL, scL, look, updL, put_mk, put_mk0, keep_mk, keepL, rowE, rowD, bndN, binV, binC, unV, GV.getT, GV.fld, GV.sz, GV.same, GV.setT, Value.oneCell', cond_true, cond_false, Nat.reduceEqDiff, Nat.reduceAdd, Nat.reduceMul, Nat.reduceSub, Nat.reduceBEq, Nat.reduceLeDiff, ↓reduceIte, reduceCtorEq, List.nil_append, List.cons_append, List.append_nil, Nat.zero_add, Nat.add_zero, Bool.and_true, Bool.true_and, Bool.not_true, Bool.not_false, BEq.rfl, decide_true, decide_false, true_and, and_true, initF, initP, List.map_cons, List.map_nil, Option.map_some, szAll, List.length_cons, List.length_nil, finW_r, finW_n, resL, resOne, Option.bind_some, true_imp_iff, false_imp_iff, Bool.true_eq_false, Bool.false_eq_true, Int.toNat_natCast, Int.reduceToNat, Int.reduceLE, Int.reduceLT, Int.reduceAdd, Int.reduceSub, Int.reduceEq, decide_eq_true_eq, decide_eq_false_iff_not, kill, SV.mentions, ne_eq, not_false_eq_true, not_true_eq_false, List.drop_zero, List.take_succ_cons, List.take_zero, dOk, ↓br_tt, ↓br_ff, ↓br_tf, ↓br_ft, br_t, br_f, Bool.bne_false, Bool.bne_true, GV.bldT, GV.bldC, same_int, getT_nil, setT_nil, getD_gi, List.length_map, fits_s, fits_c, fits_ar, arr_ar, get_nil, gPlace_sz, gPlace_fits, gPlace_isS, gPlace_same, gPlace_fld0, gPlace_get0, gPlace_set0, gPlace_fld1, gPlace_get1, gPlace_set1, gPlace_zero, getD_gPlace, gTreeNode_sz, gTreeNode_fits, gTreeNode_isS, gTreeNode_same, gTreeNode_fld0, gTreeNode_get0, gTreeNode_set0, gTreeNode_fld1, gTreeNode_get1, gTreeNode_set1, gTreeNode_fld2, gTreeNode_get2, gTreeNode_set2, gTreeNode_fld3, gTreeNode_get3, gTreeNode_set3, gTreeNode_zero, getD_gTreeNode, ptr, nptr_some, nptr_none]
      rw [show T.has a = false by rw [PT.has, hy]; rfl, Bool.and_false]; rfl
    | some y =>
      simp (maxSteps := 2000000) only [vc_skip, vc_ret, vc_exit, vc_seq, vc_block, vc_scope, scopeQ_n, scopeQ_r, scopeQ_e, vc_rg, vc_rgq, vc_rga, vc_ite, thenQ_n, thenQ_r, thenQ_e, blockQ_n, blockQ_r, blockQ_e, kKeep_eq, loopQ_r, loopQ_e, loopQ_n, finQ_r, finQ_n, segs_nil, segs_n, segs_g, ops_nil, ops_cons, qsegs_nil, qsegs_n, qsegs_g, qops_nil, qops_cons, ot_done, ot_op, ot_or, List.contains_cons, List.contains_nil, Bool.or_false, Bool.or_true, Bool.true_or, Bool.false_or, vcqOp, vcOp, isRd, RO.isGh, skip_mk, skipL, ev, evL, gvL, scL, look, updL, put_mk, put_mk0, keep_mk, keepL, rowE, rowD, bndN, binV, binC, unV, GV.getT, GV.fld, GV.sz, GV.same, GV.setT, Value.oneCell', cond_true, cond_false, Nat.reduceEqDiff, Nat.reduceAdd, Nat.reduceMul, Nat.reduceSub, Nat.reduceBEq, Nat.reduceLeDiff, ↓reduceIte, reduceCtorEq, List.nil_append, List.cons_append, List.append_nil, Nat.zero_add, Nat.add_zero, Bool.and_true, Bool.true_and, Bool.not_true, Bool.not_false, BEq.rfl, decide_true, decide_false, true_and, and_true, initF, initP, List.map_cons, List.map_nil, Option.map_some, szAll, List.length_cons, List.length_nil, finW_r, finW_n, resL, resOne, Option.bind_some, true_imp_iff, false_imp_iff, Bool.true_eq_false, Bool.false_eq_true, Int.toNat_natCast, Int.reduceToNat, Int.reduceLE, Int.reduceLT, Int.reduceAdd, Int.reduceSub, Int.reduceEq, decide_eq_true_eq, decide_eq_false_iff_not, kill, SV.mentions, ne_eq, not_false_eq_true, not_true_eq_false, List.drop_zero, List.take_succ_cons, List.take_zero, dOk, ↓br_tt, ↓br_ff, ↓br_tf, ↓br_ft, br_t, br_f, Bool.bne_false, Bool.bne_true, GV.bldT, GV.bldC, same_int, getT_nil, setT_nil, getD_gi, List.length_map, fits_s, fits_c, fits_ar, arr_ar, get_nil, gPlace_sz, gPlace_fits, gPlace_isS, gPlace_same, gPlace_fld0, gPlace_get0, gPlace_set0, gPlace_fld1, gPlace_get1, gPlace_set1, gPlace_zero, getD_gPlace, gTreeNode_sz, gTreeNode_fits, gTreeNode_isS, gTreeNode_same, gTreeNode_fld0, gTreeNode_get0, gTreeNode_set0, gTreeNode_fld1, gTreeNode_get1, gTreeNode_set1, gTreeNode_fld2, gTreeNode_get2, gTreeNode_set2, gTreeNode_fld3, gTreeNode_get3, gTreeNode_set3, gTreeNode_zero, getD_gTreeNode, ptr, nptr_some, nptr_none]
      refine eq_of (eqNode _) ?_
      simp (maxSteps := 2000000) only [vc_skip, vc_ret, vc_exit, vc_seq, vc_block, vc_scope, scopeQ_n, scopeQ_r, scopeQ_e, vc_rg, vc_rgq, vc_rga, vc_ite, thenQ_n, thenQ_r, thenQ_e, blockQ_n, blockQ_r, blockQ_e, kKeep_eq, loopQ_r, loopQ_e, loopQ_n, finQ_r, finQ_n, segs_nil, segs_n, segs_g, ops_nil, ops_cons, qsegs_nil, qsegs_n, qsegs_g, qops_nil, qops_cons, ot_done, ot_op, ot_or, List.contains_cons, List.contains_nil, Bool.or_false, Bool.or_true, Bool.true_or, Bool.false_or, vcqOp, vcOp, isRd, RO.isGh, skip_mk, skipL, ev, evL, gvL, scL, look, updL, put_mk, put_mk0, keep_mk, keepL, rowE, rowD, bndN, binV, binC, unV, GV.getT, GV.fld, GV.sz, GV.same, GV.setT, Value.oneCell', cond_true, cond_false, Nat.reduceEqDiff, Nat.reduceAdd, Nat.reduceMul, Nat.reduceSub, Nat.reduceBEq, Nat.reduceLeDiff, ↓reduceIte, reduceCtorEq, List.nil_append, List.cons_append, List.append_nil, Nat.zero_add, Nat.add_zero, Bool.and_true, Bool.true_and, Bool.not_true, Bool.not_false, BEq.rfl, decide_true, decide_false, true_and, and_true, initF, initP, List.map_cons, List.map_nil, Option.map_some, szAll, List.length_cons, List.length_nil, finW_r, finW_n, resL, resOne, Option.bind_some, true_imp_iff, false_imp_iff, Bool.true_eq_false, Bool.false_eq_true, Int.toNat_natCast, Int.reduceToNat, Int.reduceLE, Int.reduceLT, Int.reduceAdd, Int.reduceSub, Int.reduceEq, decide_eq_true_eq, decide_eq_false_iff_not, kill, SV.mentions, ne_eq, not_false_eq_true, not_true_eq_false, List.drop_zero, List.take_succ_cons, List.take_zero, dOk, ↓br_tt, ↓br_ff, ↓br_tf, ↓br_ft, br_t, br_f, Bool.bne_false, Bool.bne_true, GV.bldT, GV.bldC, same_int, getT_nil, setT_nil, getD_gi, List.length_map, fits_s, fits_c, fits_ar, arr_ar, get_nil, gPlace_sz, gPlace_fits, gPlace_isS, gPlace_same, gPlace_fld0, gPlace_get0, gPlace_set0, gPlace_fld1, gPlace_get1, gPlace_set1, gPlace_zero, getD_gPlace, gTreeNode_sz, gTreeNode_fits, gTreeNode_isS, gTreeNode_same, gTreeNode_fld0, gTreeNode_get0, gTreeNode_set0, gTreeNode_fld1, gTreeNode_get1, gTreeNode_set1, gTreeNode_fld2, gTreeNode_get2, gTreeNode_set2, gTreeNode_fld3, gTreeNode_get3, gTreeNode_set3, gTreeNode_zero, getD_gTreeNode, ptr, nptr_some, nptr_none]
      refine call_is _ [.s (.bool (T.below n a))] rfl rfl (fun w' vs hv hw => ?_) ?_
      · obtain ⟨vs, rfl, _, hv⟩ := argsV_g hv
        obtain ⟨vs, rfl, _, hv⟩ := argsV_g hv
        obtain ⟨vs, rfl, _, hv⟩ := argsV_g hv
        obtain rfl := argsV_nil hv
        intro _
        exact below_spec (fun b o h => hw b o (by rw [u0_no]; exact hu b o h)) hT n a hl
      simp (maxSteps := 2000000) only [retS, vc_skip, vc_ret, vc_exit, vc_seq, vc_block, vc_scope, scopeQ_n, scopeQ_r, scopeQ_e, vc_rg, vc_rgq, vc_rga, vc_ite, thenQ_n, thenQ_r, thenQ_e, blockQ_n, blockQ_r, blockQ_e, kKeep_eq, loopQ_r, loopQ_e, loopQ_n, finQ_r, finQ_n, segs_nil, segs_n, segs_g, ops_nil, ops_cons, qsegs_nil, qsegs_n, qsegs_g, qops_nil, qops_cons, ot_done, ot_op, ot_or, List.contains_cons, List.contains_nil, Bool.or_false, Bool.or_true, Bool.true_or, Bool.false_or, vcqOp, vcOp, isRd, RO.isGh, skip_mk, skipL, ev, evL, gvL, scL, look, updL, put_mk, put_mk0, keep_mk, keepL, rowE, rowD, bndN, binV, binC, unV, GV.getT, GV.fld, GV.sz, GV.same, GV.setT, Value.oneCell', cond_true, cond_false, Nat.reduceEqDiff, Nat.reduceAdd, Nat.reduceMul, Nat.reduceSub, Nat.reduceBEq, Nat.reduceLeDiff, ↓reduceIte, reduceCtorEq, List.nil_append, List.cons_append, List.append_nil, Nat.zero_add, Nat.add_zero, Bool.and_true, Bool.true_and, Bool.not_true, Bool.not_false, BEq.rfl, decide_true, decide_false, true_and, and_true, initF, initP, List.map_cons, List.map_nil, Option.map_some, szAll, List.length_cons, List.length_nil, finW_r, finW_n, resL, resOne, Option.bind_some, true_imp_iff, false_imp_iff, Bool.true_eq_false, Bool.false_eq_true, Int.toNat_natCast, Int.reduceToNat, Int.reduceLE, Int.reduceLT, Int.reduceAdd, Int.reduceSub, Int.reduceEq, decide_eq_true_eq, decide_eq_false_iff_not, kill, SV.mentions, ne_eq, not_false_eq_true, not_true_eq_false, List.drop_zero, List.take_succ_cons, List.take_zero, dOk, ↓br_tt, ↓br_ff, ↓br_tf, ↓br_ft, br_t, br_f, Bool.bne_false, Bool.bne_true, GV.bldT, GV.bldC, same_int, getT_nil, setT_nil, getD_gi, List.length_map, fits_s, fits_c, fits_ar, arr_ar, get_nil, gPlace_sz, gPlace_fits, gPlace_isS, gPlace_same, gPlace_fld0, gPlace_get0, gPlace_set0, gPlace_fld1, gPlace_get1, gPlace_set1, gPlace_zero, getD_gPlace, gTreeNode_sz, gTreeNode_fits, gTreeNode_isS, gTreeNode_same, gTreeNode_fld0, gTreeNode_get0, gTreeNode_set0, gTreeNode_fld1, gTreeNode_get1, gTreeNode_set1, gTreeNode_fld2, gTreeNode_get2, gTreeNode_set2, gTreeNode_fld3, gTreeNode_get3, gTreeNode_set3, gTreeNode_zero, getD_gTreeNode, ptr, nptr_some, nptr_none]
      rw [show T.has a = true by rw [PT.has, hy]; rfl, show T.has n = true by rw [PT.has, hx]; rfl]; rfl
end
end Go.Proofs.YtnoeabmpdjpfaaaGreatDoor.Vc

/- The code of some functions of the program, its types resolved: printed by a program of this claim. -/
set_option linter.unusedVariables false
set_option maxRecDepth 100000
namespace Go.Proofs.YtnoeabmpdjpfaaaGreatDoor.Vc
open Go Go.Proofs

abbrev f_path_Of : Nat := 9
def c_path_Of_L0 : Cd :=
 (.seq (.seq (.rg [⟨none, [(some 25, .mv (.t 1)), (some 26, .bin .neq (.t 25) (.c (.int .i64 1)))]⟩] [0, 1, 8, 26])
 (.ite (.t 26)
 .skip
 (.exit 0)))
 (.block 1 (.seq (.rg [⟨none, [(some 28, .mv (.t 0)), (some 29, .mv (.t 1)), (some 30, .call 12 [(.t 28), (.t 29)]), (some 27, .mv (.t 30)), (some 31, .ext (.t 27) 0), (some 32, .ext (.t 27) 1), (some 9, .new 32 (.c (.s (.int .i64 0)) (.c (.s (.int .i64 0)) (.c (.s (.string ⟨#[]⟩)) (.c (.s (.slice none 0 0)) .u))))), (none, .st (.t 9) (.t 31) 4), (some 10, .mv (.t 32))]⟩] [0, 8, 9])
 (.seq (.rg [⟨none, [(some 33, .fldA (.t 9) 2 2), (some 34, .ld (.t 33) 1 false), (some 35, .bldS 9 1 (.s (.string ⟨#[]⟩)) [(.t 34)]), (some 36, .mv (.t 8)), (none, .gh), (some 37, .app 9 1 16 (.s (.string ⟨#[]⟩)) (.t 35) (.t 36)), (none, .gh), (some 8, .mv (.t 37))]⟩] [0, 8, 9])
 (.seq (.rg [⟨none, [(some 38, .fldA (.t 9) 1 1), (some 39, .ld (.t 38) 1 false), (some 1, .mv (.t 39))]⟩] [0, 1, 8])
 (.seq (.rg [⟨none, [(some 40, .mv (.t 8)), (some 41, .len (.t 40)), (some 42, .bin .gtr (.t 41) (.c (.int .i64 64)))]⟩] [0, 1, 8, 42])
 (.ite (.t 42)
 (.seq (.rg [⟨none, [(some 4, .mv (.c (.string ⟨#[]⟩))), (some 5, .mv (.c (.int .i64 3)))]⟩] [4, 5])
 .ret)
 .skip)))))))
def c_path_Of : Cd :=
 (.seq (.rg [⟨none, [(some 4, .mv (.c (.string ⟨#[]⟩))), (some 5, .mv (.c (.int .i64 0)))]⟩] [0, 1])
 (.seq (.seq (.rg [⟨none, [(some 11, .mv (.t 0)), (some 12, .call 35 [(.t 11)]), (some 13, .bin .eql (.t 12) (.c (.int .i64 0)))]⟩] [0, 1, 13])
 (.ite (.t 13)
 (.seq (.rg [⟨none, [(some 4, .mv (.c (.string ⟨#[]⟩))), (some 5, .mv (.c (.int .i64 2)))]⟩] [4, 5])
 .ret)
 .skip))
 (.seq (.seq (.rg [⟨none, [(some 15, .mv (.t 0)), (some 16, .mv (.t 1)), (some 17, .call 12 [(.t 15), (.t 16)]), (some 14, .mv (.t 17)), (some 18, .ext (.t 14) 0), (some 19, .ext (.t 14) 1), (some 6, .new 32 (.c (.s (.int .i64 0)) (.c (.s (.int .i64 0)) (.c (.s (.string ⟨#[]⟩)) (.c (.s (.slice none 0 0)) .u))))), (none, .st (.t 6) (.t 18) 4), (some 7, .mv (.t 19))]⟩] [0, 1, 7])
 (.seq (.rg [⟨none, [(some 20, .mv (.t 7)), (some 21, .un .not (.t 20))]⟩] [0, 1, 21])
 (.ite (.t 21)
 (.seq (.rg [⟨none, [(some 4, .mv (.c (.string ⟨#[]⟩))), (some 5, .mv (.c (.int .i64 4)))]⟩] [4, 5])
 .ret)
 .skip)))
 (.seq (.seq (.rg [⟨none, [(some 22, .mv (.t 0)), (some 23, .mv (.t 1)), (some 24, .call 10 [(.t 22), (.t 23), (.c (.int .i64 2))])]⟩] [0, 1, 24])
 (.ite (.t 24)
 (.seq (.rg [⟨none, [(some 4, .mv (.c (.string ⟨#[]⟩))), (some 5, .mv (.c (.int .i64 201)))]⟩] [4, 5])
 .ret)
 .skip))
 (.seq (.rg [⟨none, [(some 8, .mv (.c (.slice none 0 0)))]⟩] [0, 1, 8])
 (.seq (.block 0 (.loop c_path_Of_L0))
 (.seq (.rg [⟨none, [(some 43, .mv (.t 8)), (some 44, .call 36 [(.t 43), (.c (.string ⟨#[47]⟩))]), (some 45, .bin .add (.c (.string ⟨#[47]⟩)) (.t 44)), (some 4, .mv (.t 45)), (some 5, .mv (.c (.int .i64 0)))]⟩] [4, 5])
 .ret)))))))
theorem k_path_Of : Ok Tryz.prog 9 c_path_Of 46 [] [.tmp 4, .tmp 5] := Ok.mk' Tryz.func9 (by kernel_rfl) (by kernel_rfl) (by kernel_rfl)

abbrev f_path_Resolve : Nat := 11
def c_path_Resolve_L0 : Cd :=
 (.seq (.rg [⟨none, [(some 27, .bin .lss (.t 26) (.t 25))]⟩] [0, 8, 24, 25, 26, 27])
 (.seq (.ite (.t 27)
 .skip
 (.exit 0))
 (.seq (.block 1 (.seq (.rg [⟨none, [(some 28, .idxS (.t 24) (.t 26) 1), (some 29, .ld (.t 28) 1 false), (some 10, .mv (.t 29))]⟩] [0, 8, 10, 24, 25, 26])
 (.seq (.rg [⟨none, [(some 31, .mv (.t 0)), (some 32, .mv (.t 8)), (some 33, .mv (.t 10)), (some 34, .call 13 [(.t 31), (.t 32), (.t 33)]), (some 30, .mv (.t 34)), (some 35, .ext (.t 30) 0), (some 36, .ext (.t 30) 1), (some 11, .mv (.t 35)), (some 12, .mv (.t 36))]⟩] [0, 11, 12, 24, 25, 26])
 (.seq (.seq (.rg [⟨none, [(some 37, .mv (.t 12)), (some 38, .un .not (.t 37))]⟩] [0, 11, 24, 25, 26, 38])
 (.ite (.t 38)
 (.seq (.rg [⟨none, [(some 4, .mv (.c (.int .i64 0))), (some 5, .mv (.c (.int .i64 4)))]⟩] [4, 5])
 .ret)
 .skip))
 (.rg [⟨none, [(some 39, .mv (.t 11)), (some 8, .mv (.t 39))]⟩] [0, 8, 24, 25, 26])))))
 (.rg [⟨none, [(some 40, .bin .add (.t 26) (.c (.int .i64 1))), (some 26, .mv (.t 40))]⟩] [0, 8, 24, 25, 26]))))
def c_path_Resolve : Cd :=
 (.seq (.rg [⟨none, [(some 4, .mv (.c (.int .i64 0))), (some 5, .mv (.c (.int .i64 0)))]⟩] [0, 1])
 (.seq (.seq (.rg [⟨none, [(some 13, .mv (.t 0)), (some 14, .call 35 [(.t 13)]), (some 15, .bin .eql (.t 14) (.c (.int .i64 0)))]⟩] [0, 1, 15])
 (.ite (.t 15)
 (.seq (.rg [⟨none, [(some 4, .mv (.c (.int .i64 0))), (some 5, .mv (.c (.int .i64 2)))]⟩] [4, 5])
 .ret)
 .skip))
 (.seq (.rg [⟨none, [(some 17, .mv (.t 1)), (some 18, .call 14 [(.t 17)]), (some 16, .mv (.t 18)), (some 19, .ext (.t 16) 0), (some 20, .ext (.t 16) 1), (some 6, .mv (.t 19)), (some 7, .mv (.t 20))]⟩] [0, 6, 7])
 (.seq (.seq (.rg [⟨none, [(some 21, .mv (.t 7)), (some 22, .bin .neq (.t 21) (.c (.int .i64 0)))]⟩] [0, 6, 7, 22])
 (.ite (.t 22)
 (.seq (.rg [⟨none, [(some 23, .mv (.t 7)), (some 4, .mv (.c (.int .i64 0))), (some 5, .mv (.t 23))]⟩] [4, 5])
 .ret)
 .skip))
 (.seq (.rg [⟨none, [(some 8, .mv (.c (.int .i64 1)))]⟩] [0, 6, 8])
 (.seq (.seq (.rg [⟨none, [(some 24, .mv (.t 6)), (none, .gh), (some 25, .len (.t 24)), (some 26, .mv (.c (.int .i64 0)))]⟩] [0, 8, 24, 25, 26])
 (.block 0 (.loop c_path_Resolve_L0)))
 (.seq (.rg [⟨none, [(some 41, .mv (.t 8)), (some 4, .mv (.t 41)), (some 5, .mv (.c (.int .i64 0)))]⟩] [4, 5])
 .ret)))))))
theorem k_path_Resolve : Ok Tryz.prog 11 c_path_Resolve 42 [] [.tmp 4, .tmp 5] := Ok.mk' Tryz.func11 (by kernel_rfl) (by kernel_rfl) (by kernel_rfl)

abbrev f_law20_PathFinds : Nat := 3
def c_law20_PathFinds_L0 : Cd :=
 (.seq (.seq (.rg [⟨none, [(some 60, .mv (.t 12)), (some 61, .bin .neq (.t 60) (.c (.int .i64 1)))]⟩] [3, 6, 9, 10, 11, 12, 29, 30, 31, 61])
 (.ite (.t 61)
 .skip
 (.exit 2)))
 (.block 3 (.seq (.rg [⟨none, [(some 63, .mv (.t 3)), (some 64, .mv (.t 12)), (some 65, .call 12 [(.t 63), (.t 64)]), (some 62, .mv (.t 65)), (some 66, .ext (.t 62) 0), (some 67, .ext (.t 62) 1), (some 13, .new 32 (.c (.s (.int .i64 0)) (.c (.s (.int .i64 0)) (.c (.s (.string ⟨#[]⟩)) (.c (.s (.slice none 0 0)) .u))))), (none, .st (.t 13) (.t 66) 4), (some 14, .mv (.t 67))]⟩] [3, 6, 9, 10, 11, 12, 13, 14, 29, 30, 31])
 (.seq (.seq (.rg [⟨none, [(some 68, .mv (.t 14)), (some 69, .un .not (.t 68))]⟩] [3, 6, 9, 10, 11, 12, 13, 29, 30, 31, 69])
 (.ite (.t 69)
 (.seq (.rg [⟨none, [(some 2, .mv (.c (.bool false)))]⟩] [2])
 .ret)
 .skip))
 (.seq (.rg [⟨none, [(some 71, .mv (.t 3)), (some 72, .fldA (.t 13) 1 1), (some 73, .ld (.t 72) 1 false), (some 74, .fldA (.t 13) 2 2), (some 75, .ld (.t 74) 1 false), (some 76, .call 13 [(.t 71), (.t 73), (.t 75)]), (some 70, .mv (.t 76)), (some 77, .ext (.t 70) 0), (some 78, .ext (.t 70) 1), (some 15, .mv (.t 77)), (some 16, .mv (.t 78))]⟩] [3, 6, 9, 10, 11, 12, 13, 15, 29, 30, 31])
 (.seq (.rg [⟨none, [(some 79, .mv (.t 11)), (some 80, .mv (.t 79))]⟩, ⟨some (80, true), [(some 81, .mv (.t 15)), (some 82, .mv (.t 12)), (some 83, .bin .eql (.t 81) (.t 82))]⟩, ⟨none, [(some 84, .pick (.t 80) (.t 83) (.c (.bool false))), (some 11, .mv (.t 84))]⟩] [3, 6, 9, 10, 11, 13, 29, 30, 31])
 (.rg [⟨none, [(some 85, .fldA (.t 13) 1 1), (some 86, .ld (.t 85) 1 false), (some 12, .mv (.t 86))]⟩] [3, 6, 9, 10, 11, 12, 29, 30, 31])))))))
def c_law20_PathFinds_L1 : Cd :=
 (.seq (.rg [⟨none, [(some 32, .bin .lss (.t 31) (.t 30))]⟩] [3, 29, 30, 31, 32])
 (.seq (.ite (.t 32)
 .skip
 (.exit 0))
 (.seq (.block 1 (.seq (.rg [⟨none, [(some 33, .idxS (.t 29) (.t 31) 4), (some 34, .ld (.t 33) 4 true), (some 6, .new 32 (.c (.s (.int .i64 0)) (.c (.s (.int .i64 0)) (.c (.s (.string ⟨#[]⟩)) (.c (.s (.slice none 0 0)) .u))))), (none, .st (.t 6) (.t 34) 4)]⟩] [3, 6, 29, 30, 31])
 (.seq (.rg [⟨none, [(some 36, .mv (.t 3)), (some 37, .fldA (.t 6) 0 0), (some 38, .ld (.t 37) 1 false), (some 39, .call 9 [(.t 36), (.t 38)]), (some 35, .mv (.t 39)), (some 40, .ext (.t 35) 0), (some 41, .ext (.t 35) 1), (some 7, .mv (.t 40)), (some 8, .mv (.t 41))]⟩] [3, 6, 7, 8, 29, 30, 31])
 (.seq (.seq (.rg [⟨none, [(some 42, .mv (.t 3)), (some 43, .fldA (.t 6) 0 0), (some 44, .ld (.t 43) 1 false), (some 45, .call 10 [(.t 42), (.t 44), (.c (.int .i64 2))])]⟩] [3, 6, 7, 8, 29, 30, 31, 45])
 (.ite (.t 45)
 (.seq (.seq (.rg [⟨none, [(some 46, .mv (.t 8)), (some 47, .bin .neq (.t 46) (.c (.int .i64 201)))]⟩] [3, 29, 30, 31, 47])
 (.ite (.t 47)
 (.seq (.rg [⟨none, [(some 2, .mv (.c (.bool false)))]⟩] [2])
 .ret)
 .skip))
 (.exit 1))
 .skip))
 (.seq (.seq (.rg [⟨none, [(some 48, .mv (.t 8)), (some 49, .bin .eql (.t 48) (.c (.int .i64 3)))]⟩] [3, 6, 7, 8, 29, 30, 31, 49])
 (.ite (.t 49)
 (.exit 1)
 .skip))
 (.seq (.rg [⟨none, [(some 51, .mv (.t 3)), (some 52, .mv (.t 7)), (some 53, .call 11 [(.t 51), (.t 52)]), (some 50, .mv (.t 53)), (some 54, .ext (.t 50) 0), (some 55, .ext (.t 50) 1), (some 9, .mv (.t 54)), (some 10, .mv (.t 55))]⟩] [3, 6, 8, 9, 10, 29, 30, 31])
 (.seq (.seq (.rg [⟨none, [(some 56, .mv (.t 8)), (some 57, .bin .neq (.t 56) (.c (.int .i64 0)))]⟩] [3, 6, 9, 10, 29, 30, 31, 57])
 (.ite (.t 57)
 (.seq (.rg [⟨none, [(some 2, .mv (.c (.bool false)))]⟩] [2])
 .ret)
 .skip))
 (.seq (.rg [⟨none, [(some 11, .mv (.c (.bool true)))]⟩] [3, 6, 9, 10, 11, 29, 30, 31])
 (.seq (.seq (.rg [⟨none, [(some 58, .fldA (.t 6) 0 0), (some 59, .ld (.t 58) 1 false), (some 12, .mv (.t 59))]⟩] [3, 6, 9, 10, 11, 12, 29, 30, 31])
 (.block 2 (.loop c_law20_PathFinds_L0)))
 (.seq (.rg [⟨none, [(some 87, .mv (.t 11)), (some 88, .mv (.t 87))]⟩, ⟨some (88, true), [(some 89, .mv (.t 10)), (some 90, .bin .neq (.t 89) (.c (.int .i64 0))), (some 91, .mv (.t 90))]⟩, ⟨some (91, false), [(some 92, .mv (.t 9)), (some 93, .fldA (.t 6) 0 0), (some 94, .ld (.t 93) 1 false), (some 95, .bin .neq (.t 92) (.t 94))]⟩, ⟨some (88, true), [(some 96, .pick (.t 91) (.c (.bool true)) (.t 95))]⟩, ⟨none, [(some 97, .pick (.t 88) (.t 96) (.c (.bool false)))]⟩] [3, 29, 30, 31, 97])
 (.ite (.t 97)
 (.seq (.rg [⟨none, [(some 2, .mv (.c (.bool false)))]⟩] [2])
 .ret)
 .skip)))))))))))
 (.rg [⟨none, [(some 98, .bin .add (.t 31) (.c (.int .i64 1))), (some 31, .mv (.t 98))]⟩] [3, 29, 30, 31]))))
def c_law20_PathFinds : Cd :=
 (.seq (.rg [⟨none, [(some 2, .mv (.c (.bool false)))]⟩] [0])
 (.seq (.rg [⟨none, [(some 18, .mv (.t 0)), (some 19, .call 6 [(.t 18)]), (some 17, .mv (.t 19)), (some 20, .ext (.t 17) 0), (some 21, .ext (.t 17) 1), (some 3, .mv (.t 20)), (some 4, .mv (.t 21))]⟩] [3])
 (.seq (.seq (.rg [⟨none, [(some 22, .call 7 []), (some 23, .un .not (.t 22)), (some 24, .mv (.t 23))]⟩, ⟨some (24, false), [(some 25, .mv (.t 3)), (some 26, .eqA false 23 (.t 25) (.c (.pointer none)))]⟩, ⟨none, [(some 27, .pick (.t 24) (.c (.bool true)) (.t 26))]⟩] [3, 27])
 (.ite (.t 27)
 (.seq (.rg [⟨none, [(some 2, .mv (.c (.bool false)))]⟩] [2])
 .ret)
 .skip))
 (.seq (.seq (.rg [⟨none, [(some 28, .mv (.t 3)), (some 29, .call 8 [(.t 28)]), (none, .gh), (some 30, .len (.t 29)), (some 31, .mv (.c (.int .i64 0)))]⟩] [3, 29, 30, 31])
 (.block 0 (.loop c_law20_PathFinds_L1)))
 (.seq (.rg [⟨none, [(some 2, .mv (.c (.bool true)))]⟩] [2])
 .ret)))))
theorem k_law20_PathFinds : Ok Tryz.prog 3 c_law20_PathFinds 99 [] [.tmp 2] := Ok.mk' Tryz.func3 (by kernel_rfl) (by kernel_rfl) (by kernel_rfl)

end Go.Proofs.YtnoeabmpdjpfaaaGreatDoor.Vc

/- Of: the path of a node. -/
set_option linter.unusedVariables false
set_option linter.unusedSimpArgs false
set_option maxRecDepth 100000
namespace Go.Proofs.YtnoeabmpdjpfaaaGreatDoor.Vc
open Go Go.Proofs

/-- What Of tells. -/
def OfQ (T : PT) (n : Int) (rs : List GV) : Prop := ∃ s e, rs = [.s (.string s), .s (.int .i64 e)] ∧ (T.below n 2 = true → e = 201) ∧ (T.below n 2 = false → ∀ l, Way T l n → (l.length ≤ 64 → e = 0 ∧ s = Pa.mkS (Pa.joinS (namesW T l))) ∧ (64 < l.length → e = 3))
theorem namesW_sum {T : PT} (hg : VGood T.view) {l : List Int} {n : Int} (h : Way T l n) : (namesW T l).length = l.length ∧ ∀ x ∈ namesW T l, x.length ≤ 255 :=
  ⟨namesW_len T l, fun x hx => by
    obtain ⟨m, hm, rfl⟩ := List.mem_map.1 (List.mem_reverse.1 hx)
    exact Pa.nameA_len (h.name hg hm)⟩
theorem Way.eq {T : PT} : ∀ {l l' : List Int} {n : Int}, Way T l n → Way T l' n → l = l'
  | [], [], _, _, _ => rfl
  | [], _ :: _, n, h, h' => by
    have e : n = 1 := h
    have := h'.2.1
    rw [e] at this; cases this
  | _ :: _, [], n, h', h => by
    have e : n = 1 := h
    have := h'.2.1
    rw [e] at this; cases this
  | a :: l, b :: l', n, ⟨e, _, x, hx, hw⟩, ⟨e', _, x', hx', hw'⟩ => by
    rw [hx] at hx'; cases hx'
    rw [hw.eq hw', ← e, ← e']

section
variable {w : World} {u : PH} {L : Lay} {T : PT} {k : Nat}
theorem Of_spec (hu : u.le w) (hT : TM u L T) (n : Int) (hok : T.ok k) (hk' : k ≤ 1099511627776) (hg : VGood T.view) (hn : T.has n = true) :
    Spec Tryz.prog f_path_Of [ptr (L .t), .int .i64 n] PH.no w fun rs _ => OfQ T n rs := by
  refine spec_val k_path_Of (Qf := OfQ T n) [.g (.s (ptr (L .t))), .g (.s (.int .i64 n))] (by simp) (by simp [AV.ok, GV.ok, Value.oneCell', ptr]) ?_
  have hm := hok.many
  have hsm : ∀ n x, T.get n = some x → x.small := (ok_tells hok hk').small
  have hl0 : T.nodes.length ≠ 0 := fun e => by
    obtain ⟨x, hx⟩ := Option.isSome_iff_exists.1 hn
    have := getA_mem hx
    rw [List.length_eq_zero_iff.1 e] at this
    cases this
  have h2 : T.has 2 = true := has_iff.2 hg.two
  have node : ∀ (w' : World), (⟨Tryz.prog, 46, w, PH.no⟩ : Ctx).u0.le w' → ∀ (c : Int) (x : PN), T.get c = some x → Spec Tryz.prog f_tree_Tree_Node [ptr (L .t), .int .i64 c] PH.no w' fun rs _ => ∃ v, rs = [gTreeNode ⟨c, x.parent, x.name, v⟩, .s (.bool true)] := fun w' hw c x hx =>
    (Node_spec (fun b o h => hw b o (by rw [u0_no]; exact hu b o h)) hT c (hsm c)).mono fun rs m' h => by
      obtain ⟨v, e, _⟩ := h.2 x hx
      exact ⟨v, e⟩
  simp (maxSteps := 2000000) only [c_path_Of, vc_seq, vc_rg, thenQ_n, kKeep_eq, segs_nil, segs_n, ops_nil, ops_cons, vcOp, ev, look, put_mk, keep_mk, keepL, Value.oneCell', cond_true, Nat.reduceEqDiff, ↓reduceIte, reduceCtorEq, Nat.zero_add, initF, initP, gTreeNode_zero, ptr]
  refine call_is _ [.s (.int .i64 T.nodes.length)] rfl rfl (fun w' vs hv hw => ?_) ?_
  · obtain ⟨vs, rfl, _, hv⟩ := argsV_g hv
    obtain rfl := argsV_nil hv
    intro _
    exact Len_spec (fun b o h => hw b o (by rw [u0_no]; exact hu b o h)) hT
  simp (maxSteps := 2000000) only [retS, vc_skip, vc_ret, vc_seq, vc_rg, vc_ite, thenQ_n, thenQ_r, kKeep_eq, segs_nil, segs_n, ops_nil, ops_cons, vcOp, ev, look, put_mk, keep_mk, keepL, binV, binC, Value.oneCell', cond_true, Nat.reduceEqDiff, ↓reduceIte, reduceCtorEq, Bool.true_and, true_and, finW_r, resL, resOne, br_t]
  refine ⟨fun h => absurd (by simpa using h) hl0, fun _ => ?_⟩
  obtain ⟨x, hx⟩ := Option.isSome_iff_exists.1 hn
  refine call_val (dOk_spec rfl) rfl (Q := fun rs m' => ∃ v, rs = [gTreeNode ⟨n, x.parent, x.name, v⟩, .s (.bool true)]) (fun w' vs hv hw _ => ?_) fun rs m1 hrs hq => ?_
  · obtain ⟨vs, rfl, _, hv⟩ := argsV_g hv
    obtain ⟨vs, rfl, _, hv⟩ := argsV_g hv
    obtain rfl := argsV_nil hv
    exact node w' hw n x hx
  obtain ⟨v0, rfl⟩ := hq
  simp (maxSteps := 2000000) only [retS, List.getElem?_cons_zero, List.getElem?_cons_succ, vc_skip, vc_seq, vc_rg, vc_ite, thenQ_n, kKeep_eq, segs_nil, segs_n, ops_nil, ops_cons, vcOp, ev, look, updL, put_mk, put_mk0, keep_mk, keepL, unV, Nat.reduceEqDiff, ↓reduceIte, reduceCtorEq, Bool.and_true, Bool.true_and, Bool.not_true, true_and, and_true, ↓br_ft, getT_nil, setT_nil, gTreeNode_sz, gTreeNode_same]
  refine call_is _ [.s (.bool (T.below n 2))] rfl rfl (fun w' vs hv hw => ?_) ?_
  · obtain ⟨vs, rfl, _, hv⟩ := argsV_g hv
    obtain ⟨vs, rfl, _, hv⟩ := argsV_g hv
    obtain ⟨vs, rfl, _, hv⟩ := argsV_g hv
    obtain rfl := argsV_nil hv
    intro _
    have := BelowX_spec (fun b o h => hw b o (by rw [u0_no]; exact hu b o h)) hT n 2 (by omega)
    rwa [hn, h2, Bool.true_and, Bool.true_and] at this
  simp (maxSteps := 2000000) only [retS, vc_skip, vc_ret, vc_seq, vc_block, vc_rg, vc_ite, thenQ_n, thenQ_r, kKeep_eq, segs_nil, segs_n, ops_nil, ops_cons, vcOp, ev, look, put_mk, keep_mk, keepL, Value.oneCell', cond_true, Nat.reduceEqDiff, ↓reduceIte, reduceCtorEq, finW_r, resL, resOne, br_t]
  refine ⟨fun hb => ⟨_, _, rfl, fun _ => rfl, fun h => by rw [hb] at h; cases h⟩, fun hb => ?_⟩
  obtain ⟨l, hll, hl⟩ := way_at hok hg hn hb
  refine vc_loop (ι := List Int × List Int × Int × Value × PH) (fun q => ⟨[(0, .g (.s (.pointer (some ⟨L .t, 0, none⟩)))), (1, .g (.s (.int .i64 (q.2.2.1)))), (8, .g (.s q.2.2.2.1))], [], [], q.2.2.2.2⟩)
    (fun q => q.1 ++ q.2.1 = l ∧ q.1.length ≤ 64 ∧ Way T q.2.1 q.2.2.1 ∧ SlO q.2.2.2.2 q.2.2.2.1 9 1 ((namesW T q.1).map Pa.gN)) (fun q => q.2.1.length) ([], l, n, .slice none 0 0, PH.no) ⟨rfl, by simp, hl, ⟨fun x hx => by simp [namesW] at hx, .inl ⟨rfl, by simp [namesW]⟩⟩⟩ (ge_of ?_ ?_ rfl rfl rfl) ?_
  · simp [frIn, look]
  · simp [pvIn, look]
  rintro ⟨done, rest, cur, vN, mN⟩ ⟨hdr, hd, hW, hS⟩
  simp only at hdr hd hW hS
  generalize hQ : loopQ _ _ _ _ _ = Q
  simp (maxSteps := 2000000) only [c_path_Of_L0, vc_skip, vc_exit, vc_seq, vc_block, vc_rg, vc_ite, thenQ_n, thenQ_e, kKeep_eq, segs_nil, segs_n, ops_nil, ops_cons, vcOp, ev, look, put_mk, keep_mk, keepL, binV, binC, Value.oneCell', cond_true, Nat.reduceEqDiff, ↓reduceIte, reduceCtorEq, Bool.true_and, true_and, br_t, gTreeNode_zero]
  refine ⟨fun hc => ?_, fun hc => ?_⟩
  · cases rest with
    | nil => exact absurd (show cur = 1 from hW) (by simpa using hc)
    | cons m rest =>
      obtain ⟨rfl, htc, y, hy, hW'⟩ := hW
      refine call_val (dOk_spec rfl) rfl (Q := fun rs m' => ∃ v, rs = [gTreeNode ⟨cur, y.parent, y.name, v⟩, .s (.bool true)]) (fun w' vs hv hw _ => ?_) fun rs m1 hrs hq => ?_
      · obtain ⟨vs, rfl, _, hv⟩ := argsV_g hv
        obtain ⟨vs, rfl, _, hv⟩ := argsV_g hv
        obtain rfl := argsV_nil hv
        exact node w' hw cur y hy
      obtain ⟨v1, rfl⟩ := hq
      simp (maxSteps := 2000000) only [retS, List.getElem?_cons_zero, List.getElem?_cons_succ, vc_seq, vc_rg, thenQ_n, kKeep_eq, segs_nil, segs_n, ops_nil, ops_cons, vcOp, ev, evL, gvL, look, updL, put_mk, put_mk0, keep_mk, keepL, GV.getT, GV.sz, Nat.reduceEqDiff, ↓reduceIte, reduceCtorEq, List.nil_append, Nat.zero_add, Bool.and_true, Bool.true_and, Bool.not_false, true_and, and_true, Option.map_some, szAll, List.length_cons, List.length_nil, getT_nil, setT_nil, fits_s, gTreeNode_sz, gTreeNode_same, gTreeNode_fld2, gTreeNode_get2]
      refine gh_own 36 36 (.s (.string ⟨#[]⟩)) rfl rfl hS (uni_no_r _).symm (dis_no_r _) ?_
      simp (maxSteps := 2000000) only [ops_cons, vcOp, ev, look, updL, put_mk, rowE, cond_true, cond_false, Nat.reduceEqDiff, Nat.reduceBEq, ↓reduceIte, List.nil_append, List.cons_append, Nat.zero_add, Bool.and_true, Bool.true_and, BEq.rfl, true_and, and_true, List.length_cons, List.length_nil, kill, SV.mentions, ne_eq, not_false_eq_true, List.drop_zero, List.length_map]
      refine ⟨by rw [namesW_len]; omega, ?_⟩
      refine gh_pub 37 35 (1 + (namesW T done).length) rfl rfl (by simp; omega) fun v' u' hv' hS' hd' => ?_
      have eN : namesW T (done ++ [cur]) = nameL T cur :: namesW T done := by simp [namesW]
      have eS : GV.s (Value.string y.name) :: ((namesW T done).map Pa.gN).take (namesW T done).length = (namesW T (done ++ [cur])).map Pa.gN := by
        rw [eN, List.map_cons, List.take_of_length_le (by simp), Pa.gN, nameL_mk hy]
      rw [eS] at hS'
      rcases Pa.names_shape hS'.toR with ⟨h3, _⟩ | ⟨h3, b', o', c', h4, h5, _⟩
      · rw [eN] at h3; cases h3
      have h6 : (namesW T (done ++ [cur])).length = done.length + 1 := by rw [namesW_len]; simp
      rw [h6] at h4
      subst h4
      simp (maxSteps := 2000000) only [vc_skip, vc_ret, vc_seq, vc_rg, vc_ite, thenQ_n, blockQ_n, blockQ_r, kKeep_eq, segs_nil, segs_n, ops_nil, ops_cons, vcOp, ev, look, put_mk, keep_mk, keepL, binV, binC, Value.oneCell', cond_true, cond_false, Nat.reduceEqDiff, Nat.reduceBEq, ↓reduceIte, reduceCtorEq, List.nil_append, Bool.true_and, BEq.rfl, true_and, decide_eq_true_eq, decide_eq_false_iff_not, kill, SV.mentions, br_t, getT_nil]
      refine ⟨rfl, rfl, ?_⟩
      rw [uni_no_r, show (gTreeNode ⟨cur, y.parent, y.name, v1⟩).getT [1] = .s (.int .i64 y.parent) from rfl]
      have hll' : (done ++ [cur]).length + rest.length = l.length := by rw [← hdr]; simp; omega
      refine ⟨fun hg64 => ?_, fun hg64 => ?_⟩
      · subst hQ
        simp (maxSteps := 2000000) only [thenQ_r, blockQ_r, loopQ_r, look, Nat.reduceEqDiff, ↓reduceIte, finW_r, resL, resOne]
        refine ⟨_, _, rfl, (fun h => by rw [hb] at h; cases h), fun _ l' hl' => ?_⟩
        have := hl.eq hl'
        subst this
        simp only [List.length_append, List.length_cons, List.length_nil] at hll'
        exact ⟨fun h => by omega, fun _ => rfl⟩
      · subst hQ; simp only [loopQ_n]; refine ⟨(done ++ [cur], rest, y.parent, .slice (some ⟨b', o', none⟩) (done.length + 1) c', u'), ?_, ?_, ge_of ?_ ?_ rfl rfl rfl⟩
        · exact ⟨by simp [← hdr], by simp only [List.length_append, List.length_cons, List.length_nil]; omega, hW', hS'⟩
        · simp only [List.length_cons]; omega
        · simp only [frIn, look, Nat.reduceEqDiff, ↓reduceIte, reduceCtorEq, Bool.and_true, and_true]
          try simp
        · simp [pvIn, look]
  · subst hQ
    simp (maxSteps := 2000000) only [vc_seq, vc_rg, thenQ_n, blockQ_e, loopQ_e, segs_n, ops_cons, vcOp, ev, look, put_mk, Nat.reduceEqDiff, ↓reduceIte, reduceCtorEq]
    have hc1 : cur = 1 := by simpa using hc
    subst hc1
    have hr : rest = [] := by
      cases rest with
      | nil => rfl
      | cons m rest => exact absurd hW.2.1 (by decide)
    subst hr
    rw [List.append_nil] at hdr
    subst hdr
    obtain ⟨hlen, hsz⟩ := namesW_sum hg hl
    have hsum : ((namesW T done).map List.length).sum + (namesW T done).length ≤ 140737488355328 := by
      have := Pa.sumL_le (ns := namesW T done) fun x hx => by
        obtain ⟨m, hm, rfl⟩ := List.mem_map.1 (List.mem_reverse.1 hx)
        exact hl.name hg hm
      unfold Pa.sumL at this
      omega
    refine call_ism _ [.s (.string (Pa.mkS (Lib.join (namesW T done) [47])))] rfl rfl (fun w' vs hv _ _ hm => ?_) ?_
    · obtain ⟨vs, rfl, _, hv⟩ := argsV_g hv
      obtain ⟨vs, rfl, _, hv⟩ := argsV_g hv
      obtain rfl := argsV_nil hv
      exact Pa.Join_spec w' vN (namesW T done) hsum mN hm hS.toR
    simp (maxSteps := 2000000) only [retS, vc_ret, thenQ_n, kKeep_eq, segs_nil, ops_nil, ops_cons, vcOp, ev, look, put_mk, keep_mk, keepL, binV, binC, Value.oneCell', cond_true, Nat.reduceEqDiff, ↓reduceIte, finW_r, resL, resOne]
    have hjl := Pa.join_len (namesW T done)
    refine ⟨?_, _, _, rfl, (fun h => by rw [hb] at h; cases h), fun _ l' hl' => ?_⟩
    · rw [Pa.mkS_size, show (⟨#[47]⟩ : ByteArray).size = 1 from rfl]
      omega
    have := hl.eq hl'
    subst this
    refine ⟨fun _ => ⟨rfl, ?_⟩, fun h => by omega⟩
    rw [show (⟨#[47]⟩ : ByteArray) = Pa.mkS [47] from rfl, Pa.mkS_app]
    rfl
end
end Go.Proofs.YtnoeabmpdjpfaaaGreatDoor.Vc

/- Resolve: the node at a path. -/
set_option linter.unusedVariables false
set_option linter.unusedSimpArgs false
set_option maxRecDepth 100000
namespace Go.Proofs.YtnoeabmpdjpfaaaGreatDoor.Vc
open Go Go.Proofs

theorem way_step {T : PT} (hkd : T.kidsOk) (hg : VGood T.view) {l : List Int} {n : Int} {i : Nat} (h : Way T l n) (hi : i < l.length) (ha : ∀ m ∈ l, Alone T m) {cur : Int} {y : PN} (hc : Way T (l.drop (l.length - i)) cur) (hy : T.get cur = some y) {best : Int}
    (hL : LookP T (Pa.mkS ((namesW T l).getD i [])) y.kids best) : best ≠ 0 ∧ Way T (l.drop (l.length - (i + 1))) best := by
  obtain ⟨j, hj⟩ : ∃ j, l.length - (i + 1) = j := ⟨_, rfl⟩
  have hj2 : l.length - i = j + 1 := by omega
  rw [hj2] at hc
  rw [hj]
  have hjl : j < l.length := by omega
  obtain ⟨m0, hm0⟩ := h.drop j
  rw [List.drop_eq_getElem_cons hjl] at hm0 ⊢
  obtain ⟨rfl, ht, x, hx, hw⟩ := hm0
  have e := hw.uniq hc
  subst e
  have hn : (namesW T l).getD i [] = nameL T l[j] := by
    rw [List.getD_eq_getElem?_getD, namesW, List.getElem?_reverse (by rw [List.length_map]; exact hi), List.length_map, List.getElem?_map, show l.length - 1 - i = j by omega, List.getElem?_eq_getElem hjl]
    rfl
  rw [hn, nameL_mk hx] at hL
  obtain ⟨h0, h1⟩ := look_alone hkd hg hx ht hy hL
  have := h1.2 (ha _ (List.getElem_mem hjl))
  exact ⟨h0, by rw [this]; exact ⟨rfl, ht, x, hx, hc⟩⟩

/-- What Resolve tells. -/
def ResQ (T : PT) (p : List UInt8) (rs : List GV) : Prop := ∃ g e, rs = [.s (.int .i64 g), .s (.int .i64 e)] ∧ ∀ l n, Way T l n → l.length ≤ 64 → p = Pa.joinS (namesW T l) → (∀ m ∈ l, Alone T m) → g = n ∧ e = 0

section
variable {w : World} {u : PH} {L : Lay} {T : PT} {k : Nat}
theorem Resolve_spec (hu : u.le w) (hT : TM u L T) (p : List UInt8) (hp : p.length < 4294967281) (uG : PH) (huG : uG.le w) (hG : Pa.GlobI uG) (hok : T.ok k) (hk' : k ≤ 1099511627776) (hg : VGood T.view) (hkd : T.kidsOk) :
    Spec Tryz.prog f_path_Resolve [ptr (L .t), .string (Pa.mkS p)] PH.no w fun rs _ => ResQ T p rs := by
  refine spec_val k_path_Resolve (Qf := ResQ T p) [.g (.s (ptr (L .t))), .g (.s (.string (Pa.mkS p)))] (by simp) (by simp [AV.ok, GV.ok, Value.oneCell', ptr]) ?_
  have hl0 : T.nodes.length ≠ 0 := fun e => by
    obtain ⟨a, ha⟩ := Option.ne_none_iff_exists'.1 hg.one
    obtain ⟨y, hy, _⟩ := get_of_view ha
    have := getA_mem hy
    rw [List.length_eq_zero_iff.1 e] at this
    cases this
  obtain ⟨y1, hy1⟩ : ∃ y, T.get 1 = some y := by
    obtain ⟨a, ha⟩ := Option.ne_none_iff_exists'.1 hg.one
    obtain ⟨y, hy, _⟩ := get_of_view ha
    exact ⟨y, hy⟩
  simp (maxSteps := 2000000) only [c_path_Resolve, vc_seq, vc_rg, thenQ_n, kKeep_eq, segs_nil, segs_n, ops_nil, ops_cons, vcOp, ev, look, put_mk, keep_mk, keepL, Value.oneCell', cond_true, Nat.reduceEqDiff, ↓reduceIte, reduceCtorEq, Nat.zero_add, initF, initP, ptr]
  refine call_is _ [.s (.int .i64 T.nodes.length)] rfl rfl (fun w' vs hv hw => ?_) ?_
  · obtain ⟨vs, rfl, _, hv⟩ := argsV_g hv
    obtain rfl := argsV_nil hv
    intro _
    exact Len_spec (fun b o h => hw b o (by rw [u0_no]; exact hu b o h)) hT
  simp (maxSteps := 2000000) only [retS, vc_skip, vc_ret, vc_seq, vc_rg, vc_ite, thenQ_n, thenQ_r, kKeep_eq, segs_nil, segs_n, ops_nil, ops_cons, vcOp, ev, look, put_mk, keep_mk, keepL, binV, binC, Value.oneCell', cond_true, Nat.reduceEqDiff, ↓reduceIte, reduceCtorEq, Bool.true_and, true_and, finW_r, resL, resOne, br_t]
  refine ⟨fun h => absurd (by simpa using h) hl0, fun _ => ?_⟩
  refine call_frz (dOk_spec rfl) rfl (Q := Pa.SplitR (Pa.splitA p)) (fun w' vs hv hw _ => ?_) fun rs m' hrs hq => ?_
  · obtain ⟨vs, rfl, _, hv⟩ := argsV_g hv
    obtain rfl := argsV_nil hv
    exact Pa.pSplit_spec w' p hp uG (fun b o hb => hw b o (by rw [u0_no]; exact huG b o hb)) hG
  obtain ⟨ns, er, hse⟩ : ∃ ns er, Pa.splitA p = (ns, er) := ⟨_, _, rfl⟩
  rw [hse] at hq
  obtain ⟨v, rfl, hv⟩ := hq
  simp only at hv
  have hsw : ∀ l n, Way T l n → l.length ≤ 64 → p = Pa.joinS (namesW T l) → ns = namesW T l ∧ er = 0 := fun l n h1 h2 h3 => by
    have := Pa.split_join (h1.wrong hg h2)
    rw [← h3, hse] at this
    exact ⟨congrArg Prod.fst this, congrArg Prod.snd this⟩
  have hnl : ns.length ≤ 64 := by
    have := Pa.splitA_len p
    rwa [hse] at this
  simp (maxSteps := 2000000) only [retS, List.getElem?_cons_zero, List.getElem?_cons_succ, vc_skip, vc_ret, vc_seq, vc_rg, vc_ite, thenQ_n, thenQ_r, kKeep_eq, segs_nil, segs_n, ops_nil, ops_cons, vcOp, ev, look, put_mk, keep_mk, keepL, binV, binC, Value.oneCell', cond_true, Nat.reduceEqDiff, ↓reduceIte, reduceCtorEq, Bool.true_and, true_and, finW_r, resL, resOne, br_t]
  refine ⟨fun he => ?_, fun he => ?_⟩
  · refine ⟨_, _, rfl, fun l n h1 h2 h3 _ => ?_⟩
    have := (hsw l n h1 h2 h3).2
    rw [this] at he
    simp at he
  refine gh_rk 24 24 (.s (.string ⟨#[]⟩)) rfl rfl hv.toR (KN.mem (by simp)) ?_
  simp (maxSteps := 2000000) only [vc_block, thenQ_n, kKeep_eq, segs_nil, ops_nil, ops_cons, vcOp, ev, look, put_mk, keep_mk, keepL, Value.oneCell', cond_true, Nat.reduceEqDiff, ↓reduceIte, reduceCtorEq, List.length_map]
  refine vc_loop (ι := Nat × Int) (fun q => ⟨[(0, .g (.s (.pointer (some ⟨L .t, 0, none⟩)))), (8, .g (.s (.int .i64 (q.2)))), (24, .row 24 0 (ns.length)), (25, .g (.s (.int .i64 (ns.length)))), (26, .g (.s (.int .i64 (q.1))))], [(24, .ro 1 (.s (.string ⟨#[]⟩)) (ns.map Pa.gN))], [m'], PH.no⟩)
    (fun q => q.1 ≤ ns.length ∧ (∃ y, T.get q.2 = some y) ∧ ∀ l n, Way T l n → l.length ≤ 64 → p = Pa.joinS (namesW T l) → (∀ m ∈ l, Alone T m) → Way T (l.drop (l.length - q.1)) q.2) (fun q => ns.length - q.1) (0, 1) ⟨by simp, ⟨y1, hy1⟩, fun l n _ _ _ _ => by simp [Way]⟩ (ge_of ?_ ?_ rfl rfl rfl) ?_
  · simp [frIn, look]
  · simp [pvIn, look]
  rintro ⟨i, cur⟩ ⟨hi, ⟨y, hy⟩, hW⟩
  simp only at hi hy hW
  generalize hQ : loopQ _ _ _ _ _ = Q
  simp (maxSteps := 2000000) only [c_path_Resolve_L0, Pa.getD_gN, vc_skip, vc_exit, vc_seq, vc_block, vc_rg, vc_ite, thenQ_n, thenQ_e, kKeep_eq, segs_nil, segs_n, ops_nil, ops_cons, vcOp, ev, look, put_mk, keep_mk, keepL, rowE, rowD, binV, binC, Nat.reduceEqDiff, ↓reduceIte, reduceCtorEq, Nat.zero_add, Bool.true_and, Bool.not_false, true_and, Int.toNat_natCast, decide_eq_true_eq, decide_eq_false_iff_not, br_t, getT_nil, fits_s]
  refine ⟨fun hlt => ⟨⟨by omega, by omega⟩, ?_⟩, fun hge => ?_⟩
  · refine call_val (dOk_spec rfl) rfl (Q := fun rs m' => ∃ best, rs = [.s (.int .i64 best), .s (.bool (best != 0))] ∧ LookP T (Pa.mkS (ns.getD i [])) y.kids best) (fun w' vs hv hw _ => ?_) fun rs m1 hrs hq => ?_
    · obtain ⟨vs, rfl, _, hv⟩ := argsV_g hv
      obtain ⟨vs, rfl, _, hv⟩ := argsV_g hv
      obtain ⟨vs, rfl, _, hv⟩ := argsV_g hv
      obtain rfl := argsV_nil hv
      exact Lookup_spec w' u (fun b o h => hw b o (by rw [u0_no]; exact hu b o h)) L T hT cur _ y hy (kids_get hkd hg hy)
    obtain ⟨best, rfl, hL⟩ := hq
    have hstep : ∀ l n, Way T l n → l.length ≤ 64 → p = Pa.joinS (namesW T l) → (∀ m ∈ l, Alone T m) → best ≠ 0 ∧ Way T (l.drop (l.length - (i + 1))) best := fun l n h1 h2 h3 h4 => by
      have e := (hsw l n h1 h2 h3).1
      rw [e] at hL
      exact way_step hkd hg h1 (by rw [← namesW_len T l, ← e]; omega) h4 (hW l n h1 h2 h3 h4) hy hL
    simp (maxSteps := 2000000) only [retS, List.getElem?_cons_zero, List.getElem?_cons_succ, vc_skip, vc_ret, vc_seq, vc_rg, vc_ite, thenQ_n, thenQ_r, blockQ_n, blockQ_r, kKeep_eq, segs_nil, segs_n, ops_nil, ops_cons, vcOp, ev, look, put_mk, keep_mk, keepL, binV, binC, unV, Value.oneCell', cond_true, Nat.reduceEqDiff, ↓reduceIte, reduceCtorEq, Bool.true_and, true_and, br_t]
    refine ⟨fun hb => ?_, fun hb => ?_⟩
    · subst hQ
      simp (maxSteps := 2000000) only [thenQ_r, blockQ_r, loopQ_r, look, Nat.reduceEqDiff, ↓reduceIte, finW_r, resL, resOne]
      refine ⟨_, _, rfl, fun l n h1 h2 h3 h4 => ?_⟩
      have := (hstep l n h1 h2 h3 h4).1
      simp [this] at hb
    · have hb0 : best ≠ 0 := by simpa using hb
      subst hQ; simp only [loopQ_n]; refine ⟨(i + 1, best), ?_, ?_, ge_of ?_ ?_ rfl rfl rfl⟩
      · refine ⟨by simp only; omega, ?_, fun l n h1 h2 h3 h4 => (hstep l n h1 h2 h3 h4).2⟩
        rcases hL with ⟨h1, _⟩ | ⟨h1, _, _⟩
        · exact absurd h1 hb0
        · exact (kids_get hkd hg hy best h1).2
      · simp only; omega
      · simp only [frIn, look, Nat.reduceEqDiff, ↓reduceIte, reduceCtorEq, Bool.and_true, Bool.true_and, true_and, and_true]
        rw [wrap_n (by omega)]
        try simp
      · simp [pvIn, look]
  · subst hQ
    simp (maxSteps := 2000000) only [vc_ret, vc_seq, vc_rg, thenQ_n, blockQ_e, kKeep_eq, loopQ_e, segs_nil, segs_n, ops_nil, ops_cons, vcOp, ev, look, put_mk, keep_mk, keepL, Value.oneCell', cond_true, Nat.reduceEqDiff, ↓reduceIte, reduceCtorEq, finW_r, resL, resOne]
    refine ⟨_, _, rfl, fun l n h1 h2 h3 h4 => ⟨?_, rfl⟩⟩
    have := hW l n h1 h2 h3 h4
    have e := congrArg List.length (hsw l n h1 h2 h3).1
    rw [namesW_len] at e
    rw [show l.length - i = 0 by omega, List.drop_zero] at this
    exact this.uniq h1
end
end Go.Proofs.YtnoeabmpdjpfaaaGreatDoor.Vc

/- PathFinds, the walk. -/
set_option linter.unusedVariables false
set_option linter.unusedSimpArgs false
set_option maxRecDepth 100000
namespace Go.Proofs.YtnoeabmpdjpfaaaGreatDoor.Vc
open Go Go.Proofs

theorem joinW_len {T : PT} (hg : VGood T.view) {l : List Int} {n : Int} (h : Way T l n) (hl : l.length ≤ 64) : (Pa.joinS (namesW T l)).length < 4294967281 := by
  have h1 := Pa.sumL_le (ns := namesW T l) fun x hx => by
    obtain ⟨m, hm, rfl⟩ := List.mem_map.1 (List.mem_reverse.1 hx)
    exact h.name hg hm
  have h2 := Pa.join_len (namesW T l)
  unfold Pa.sumL at h1
  rw [namesW_len] at h1 h2
  rw [Pa.joinS, List.length_cons]
  omega

theorem finds_spec (w : World) (va : Value) (ops : List Op) (hl : ops.length ≤ 1048576) (ho : ∀ op ∈ ops, OpOk op) (u : PH) (hu : u.le w) (hc : SlR u va 8 (ops.map gOp)) (uG : PH) (huG : uG.le w) (hG : Pa.GlobI uG) :
    Spec Tryz.prog f_law20_PathFinds [va] PH.no w fun rs _ => rs = [.s (.bool true)] := by
  refine spec_val k_law20_PathFinds (Qf := fun rs => rs = [.s (.bool true)]) [.ro va 8 (gOp zOp) (ops.map gOp)] (by simp) (by simpa [AV.ok, u0_no] using hc.up hu.sub) ?_
  simp (maxSteps := 2000000) only [c_law20_PathFinds, vc_seq, vc_rg, thenQ_n, kKeep_eq, segs_nil, segs_n, ops_nil, ops_cons, vcOp, ev, look, put_mk, keep_mk, keepL, Value.oneCell', cond_true, ↓reduceIte, reduceCtorEq, initF, initP, List.length_map]
  refine call_frz (dOk_spec rfl) rfl (Q := fun rs m' => ∃ L T b lr ls mA mR, rs = [.s (ptr (L .t)), .s (ptr b)] ∧ m' = uni mR mA ∧ dis mR mA ∧ TM mA L T ∧ RC mR b lr ls ∧ LOk lr ∧ viewL lr = T.view ∧ T.ok ops.length ∧ VGood T.view ∧ T.kidsOk) (fun w' vs hv hw _ => ?_) fun rs m1 _ hq => ?_
  · obtain ⟨v1, vs, rfl, k1, hv⟩ := argsV_row (z := 8) (xs := ops.map gOp) rfl (by simp) hv
    obtain rfl := argsV_nil hv
    exact made20_spec w' v1 ops hl ho w'.ph (fun _ _ h => h) k1
  obtain ⟨L, T, b, lr, ls, mA, mR, rfl, rfl, hd, hT, _, _, _, hok, hg, hkd⟩ := hq
  have hA : ∀ {w' : World} {ph : List PH}, uni mR mA ∈ ph → (∀ u ∈ ph, u.le w') → mA.le w' := fun hm h b o hb => h _ hm b o (sub_uni_r hd b o hb)
  have hsm : ∀ n x, T.get n = some x → x.small := (ok_tells hok (by omega)).small
  have hmany := hok.many
  have h2 : T.has 2 = true := has_iff.2 hg.two
  simp (maxSteps := 2000000) only [retS, List.getElem?_cons_zero, List.getElem?_cons_succ, vc_seq, vc_rg, thenQ_n, kKeep_eq, segs_nil, segs_n, ops_nil, ops_cons, vcOp, ev, look, put_mk, keep_mk, keepL, Nat.reduceEqDiff, ↓reduceIte, ptr]
  refine call_is _ [.s (.bool true)] rfl rfl (fun w' vs hv hw _ => ?_) ?_
  · obtain rfl := argsV_nil hv
    exact Pa.begun_spec w' uG (fun b o hb => hw b o (by rw [u0_no]; exact huG b o hb)) hG
  simp (maxSteps := 2000000) only [retS, segs_g, ops_nil, ops_cons, vcOp, ev, look, put_mk, unV, Value.oneCell', cond_true, Nat.reduceEqDiff, ↓reduceIte, Bool.not_true, ↓br_ff]
  refine eq_of (eqTree _) ?_
  simp (maxSteps := 2000000) only [vc_skip, vc_seq, vc_rg, vc_ite, thenQ_n, kKeep_eq, segs_nil, segs_n, ops_nil, ops_cons, vcOp, ev, look, put_mk, keep_mk, keepL, Value.oneCell', cond_true, Nat.reduceEqDiff, ↓reduceIte, ↓br_ft, Bool.bne_false]
  refine call_frz (dOk_spec rfl) rfl (Q := fun rs m' => ∃ v ts, rs = [.s v] ∧ SlR m' v 4 (ts.map gTreeNode) ∧ TsOk m' ts (nodesTold T)) (fun w' vs hv hw hph => ?_) fun rs m2 _ hq => ?_
  · obtain ⟨vs, rfl, _, hv⟩ := argsV_g hv
    obtain rfl := argsV_nil hv
    exact Nodes_spec w' mA (hA (by simp) hph) L T hT (ok_tells hok (by omega))
  obtain ⟨vx, ts, rfl, hsx, hts⟩ := hq
  have htl : ts.length ≤ T.nodes.length := by rw [hts.len]; exact nodesTold_len T
  simp (maxSteps := 2000000) only [retS, ops_cons, vcOp, put_mk]
  refine gh_rk 29 29 (gTreeNode zTreeNode) rfl rfl hsx (KN.mem (by simp)) ?_
  simp (maxSteps := 2000000) only [vc_block, thenQ_n, kKeep_eq, segs_nil, ops_nil, ops_cons, vcOp, ev, look, put_mk, keep_mk, keepL, Value.oneCell', cond_true, Nat.reduceEqDiff, ↓reduceIte, List.length_map]
  refine vc_loop (ι := Nat) (fun i => ⟨[(3, .g (.s (.pointer (some ⟨L .t, 0, none⟩)))), (29, .row 29 0 (ts.length)), (30, .g (.s (.int .i64 (ts.length)))), (31, .g (.s (.int .i64 (i))))], [(29, .ro 4 (gTreeNode zTreeNode) (ts.map gTreeNode))], [m2, uni mR mA], PH.no⟩)
    (fun i => i ≤ ts.length) (fun i => ts.length - i) 0 (by simp) (ge_of ?_ ?_ rfl rfl rfl) ?_
  · simp [frIn, look]
  · simp [pvIn, look]
  rintro i hi
  generalize hQ : loopQ _ _ _ _ _ = Q
  simp (maxSteps := 2000000) only [c_law20_PathFinds_L1, vc_skip, vc_exit, vc_seq, vc_block, vc_rg, vc_ite, thenQ_n, thenQ_e, kKeep_eq, segs_nil, segs_n, ops_nil, ops_cons, vcOp, ev, look, updL, put_mk, put_mk0, keep_mk, keepL, rowE, rowD, binV, binC, GV.getT, Nat.reduceEqDiff, ↓reduceIte, List.nil_append, Nat.zero_add, Bool.and_true, Bool.true_and, Bool.not_false, true_and, and_true, Int.toNat_natCast, decide_eq_true_eq, decide_eq_false_iff_not, br_t, getT_nil, setT_nil, fits_s, gTreeNode_sz, gTreeNode_fits, gTreeNode_same, gTreeNode_fld0, gTreeNode_get0, gTreeNode_zero, getD_gTreeNode]
  refine ⟨fun hlt => ⟨⟨by omega, by omega⟩, ?_⟩, fun hge => ?_⟩
  · obtain ⟨t, ht⟩ : ∃ t, ts.getD i zTreeNode = t := ⟨_, rfl⟩
    rw [ht]
    obtain ⟨x, hx⟩ : ∃ x, T.get t.node = some x := by
      have h1 := (hts.at i (by omega)).1
      have h3 := hts.len
      rw [ht] at h1
      obtain ⟨x, hx, _⟩ := told_mem (T := T) (r := (nodesTold T).getD i zTN) (by rw [List.getD_eq_getElem?_getD, List.getElem?_eq_getElem (by omega)]; exact List.getElem_mem _)
      exact ⟨x, by rw [h1]; exact hx⟩
    have hn : T.has t.node = true := by rw [PT.has, hx]; rfl
    refine call_val (dOk_spec rfl) rfl (Q := fun rs _ => OfQ T t.node rs) (fun w' vs hv hw hph => ?_) fun rs m3 _ hq => ?_
    · obtain ⟨vs, rfl, _, hv⟩ := argsV_g hv
      obtain ⟨vs, rfl, _, hv⟩ := argsV_g hv
      obtain rfl := argsV_nil hv
      exact Of_spec (hA (by simp) hph) hT t.node hok (by omega) hg hn
    obtain ⟨so, eo, rfl, h201, hway⟩ := hq
    simp (maxSteps := 2000000) only [retS, List.getElem?_cons_zero, List.getElem?_cons_succ, vc_seq, vc_rg, thenQ_n, kKeep_eq, segs_nil, segs_n, ops_nil, ops_cons, vcOp, ev, look, put_mk, keep_mk, keepL, GV.getT, Nat.reduceEqDiff, ↓reduceIte, List.nil_append, Bool.true_and, Bool.not_false, true_and, getT_nil, fits_s, gTreeNode_fld0, gTreeNode_get0]
    refine call_is _ [.s (.bool (T.below t.node 2))] rfl rfl (fun w' vs hv hw hph => ?_) ?_
    · obtain ⟨vs, rfl, _, hv⟩ := argsV_g hv
      obtain ⟨vs, rfl, _, hv⟩ := argsV_g hv
      obtain ⟨vs, rfl, _, hv⟩ := argsV_g hv
      obtain rfl := argsV_nil hv
      have := BelowX_spec (hA (by simp) hph) hT t.node 2 (by omega)
      rwa [hn, h2, Bool.true_and, Bool.true_and] at this
    cases hb : T.below t.node 2
    · obtain ⟨l, hll, hl⟩ := way_at hok hg hn hb
      by_cases h64 : l.length ≤ 64
      · obtain ⟨rfl, rfl⟩ := (hway hb l hl).1 h64
        simp (maxSteps := 2000000) only [retS, show ((0 : Int) == 3) = false from rfl, show ((0 : Int) != 0) = false from rfl, vc_skip, vc_seq, vc_rg, vc_ite, thenQ_n, kKeep_eq, segs_nil, segs_n, ops_nil, ops_cons, vcOp, ev, look, put_mk, keep_mk, keepL, binV, binC, Value.oneCell', cond_true, Nat.reduceEqDiff, ↓reduceIte, Bool.true_and, true_and, ↓br_ft]
        refine call_val (dOk_spec rfl) rfl (Q := fun rs _ => ResQ T (Pa.joinS (namesW T l)) rs) (fun w' vs hv hw hph => ?_) fun rs m4 _ hq => ?_
        · obtain ⟨vs, rfl, _, hv⟩ := argsV_g hv
          obtain ⟨vs, rfl, _, hv⟩ := argsV_g hv
          obtain rfl := argsV_nil hv
          exact Resolve_spec (hA (by simp) hph) hT _ (joinW_len hg hl h64) uG (fun b o hb => hw b o (by rw [u0_no]; exact huG b o hb)) hG hok (by omega) hg hkd
        obtain ⟨g, e2, rfl, hres⟩ := hq
        have hres := hres l t.node hl h64 rfl
        simp (maxSteps := 2000000) only [retS, List.getElem?_cons_zero, List.getElem?_cons_succ, show ((0 : Int) != 0) = false from rfl, vc_skip, vc_seq, vc_block, vc_rg, vc_ite, thenQ_n, kKeep_eq, segs_nil, segs_n, ops_nil, ops_cons, vcOp, ev, look, put_mk, keep_mk, keepL, binV, binC, GV.getT, Value.oneCell', cond_true, Nat.reduceEqDiff, ↓reduceIte, List.nil_append, Bool.true_and, Bool.not_false, true_and, ↓br_ft, getT_nil, fits_s, gTreeNode_fld0, gTreeNode_get0]
        refine vc_loop (ι := List Int × List Int × Int × Bool) (fun q => ⟨[(3, .g (.s (.pointer (some ⟨L .t, 0, none⟩)))), (6, .ref 6 []), (9, .g (.s (.int .i64 (g)))), (10, .g (.s (.int .i64 (e2)))), (11, .g (.s (.bool q.2.2.2))), (12, .g (.s (.int .i64 (q.2.2.1)))), (29, .row 29 0 (ts.length)), (30, .g (.s (.int .i64 (ts.length)))), (31, .g (.s (.int .i64 (i))))], [(29, .ro 4 (gTreeNode zTreeNode) (ts.map gTreeNode)), (6, .box (gTreeNode t))], [m2, uni mR mA], PH.no⟩)
          (fun q => q.1 ++ q.2.1 = l ∧ Way T q.2.1 q.2.2.1 ∧ (q.2.2.2 = true ↔ ∀ m ∈ q.1, Alone T m)) (fun q => q.2.1.length) ([], l, t.node, true) ⟨rfl, hl, by simp⟩ (ge_of ?_ ?_ rfl rfl rfl) ?_
        · simp [frIn, look]
        · simp [pvIn, look]
        rintro ⟨done, rest, cur, al⟩ ⟨hdr, hW, hal⟩
        simp only at hdr hW hal
        generalize hR : loopQ _ _ _ _ _ = R
        simp (maxSteps := 2000000) only [c_law20_PathFinds_L0, vc_skip, vc_exit, vc_seq, vc_block, vc_rg, vc_ite, thenQ_n, thenQ_e, kKeep_eq, segs_nil, segs_n, ops_nil, ops_cons, vcOp, ev, look, put_mk, keep_mk, keepL, binV, binC, Value.oneCell', cond_true, Nat.reduceEqDiff, ↓reduceIte, Bool.true_and, true_and, br_t, gTreeNode_zero]
        refine ⟨fun hcn => ?_, fun hcn => ?_⟩
        · cases rest with
          | nil => exact absurd (show cur = 1 from hW) (by simpa using hcn)
          | cons m rest =>
            obtain ⟨rfl, htc, x', hx', hW'⟩ := hW
            obtain ⟨y', hy'⟩ := parent_get hg hx' htc
            refine call_val (dOk_spec rfl) rfl (Q := fun rs m' => ∃ v, rs = [gTreeNode ⟨cur, x'.parent, x'.name, v⟩, .s (.bool true)]) (fun w' vs hv hw hph => ?_) fun rs m5 _ hq => ?_
            · obtain ⟨vs, rfl, _, hv⟩ := argsV_g hv
              obtain ⟨vs, rfl, _, hv⟩ := argsV_g hv
              obtain rfl := argsV_nil hv
              exact (Node_spec (hA (by simp) hph) hT cur (hsm cur)).mono fun rs m' h => by
                obtain ⟨v, e, _⟩ := h.2 x' hx'
                exact ⟨v, e⟩
            obtain ⟨v5, rfl⟩ := hq
            simp (maxSteps := 2000000) only [retS, List.getElem?_cons_zero, List.getElem?_cons_succ, vc_skip, vc_seq, vc_rg, vc_ite, thenQ_n, kKeep_eq, segs_nil, segs_n, ops_nil, ops_cons, vcOp, ev, look, updL, put_mk, put_mk0, keep_mk, keepL, unV, GV.getT, Nat.reduceEqDiff, ↓reduceIte, List.nil_append, Bool.and_true, Bool.true_and, Bool.not_true, Bool.not_false, true_and, and_true, ↓br_ft, getT_nil, setT_nil, fits_s, gTreeNode_sz, gTreeNode_same, gTreeNode_fld1, gTreeNode_get1, gTreeNode_fld2, gTreeNode_get2]
            refine call_val (dOk_spec rfl) rfl (Q := fun rs m' => ∃ best, rs = [.s (.int .i64 best), .s (.bool (best != 0))] ∧ LookP T x'.name y'.kids best) (fun w' vs hv hw hph => ?_) fun rs m6 _ hq => ?_
            · obtain ⟨vs, rfl, _, hv⟩ := argsV_g hv
              obtain ⟨vs, rfl, _, hv⟩ := argsV_g hv
              obtain ⟨vs, rfl, _, hv⟩ := argsV_g hv
              obtain rfl := argsV_nil hv
              exact Lookup_spec w' mA (hA (by simp) hph) L T hT x'.parent x'.name y' hy' (kids_get hkd hg hy')
            obtain ⟨best, rfl, hL⟩ := hq
            obtain ⟨_, hbest⟩ := look_alone hkd hg hx' htc hy' hL
            have hnew : ∀ al', (al' = true ↔ (al = true ∧ best = cur)) → (al' = true ↔ ∀ m ∈ done ++ [cur], Alone T m) := fun al' h => by
              rw [h, hal, hbest]
              simp [or_imp, forall_and]
            simp (maxSteps := 2000000) only [retS, List.getElem?_cons_zero, List.getElem?_cons_succ, vc_seq, vc_rg, thenQ_n, blockQ_n, kKeep_eq, segs_nil, segs_n, segs_g, ops_nil, ops_cons, vcOp, RO.isGh, skip_mk, skipL, ev, look, put_mk, keep_mk, keepL, binV, binC, GV.getT, Value.oneCell', cond_true, cond_false, Nat.reduceEqDiff, ↓reduceIte, List.nil_append, Bool.true_and, Bool.not_true, Bool.not_false, true_and, ↓br_tt, ↓br_ft, br_t, getT_nil, fits_s, gTreeNode_fld1, gTreeNode_get1]
            refine ⟨fun h1 => ?_, fun h1 => ?_⟩
            · subst hR
              simp only [loopQ_n]
              refine ⟨(done ++ [cur], rest, x'.parent, best == cur), ⟨by simp [← hdr], hW', hnew _ (by simp [h1])⟩, by simp, ge_of ?_ ?_ rfl rfl rfl⟩
              · simp only [frIn, look, Nat.reduceEqDiff, ↓reduceIte, Bool.and_true, and_true]
                try simp
              · simp [pvIn, look]
            · subst hR
              simp only [loopQ_n]
              refine ⟨(done ++ [cur], rest, x'.parent, false), ⟨by simp [← hdr], hW', hnew _ (by simp [h1])⟩, by simp, ge_of ?_ ?_ rfl rfl rfl⟩
              · simp only [frIn, look, Nat.reduceEqDiff, ↓reduceIte, Bool.and_true, and_true]
                try simp
              · simp [pvIn, look]
        · subst hR
          simp (maxSteps := 2000000) only [vc_skip, vc_ret, vc_seq, vc_rg, vc_ite, thenQ_n, thenQ_r, blockQ_n, blockQ_r, blockQ_e, kKeep_eq, loopQ_e, segs_nil, segs_n, segs_g, ops_nil, ops_cons, vcOp, RO.isGh, skip_mk, skipL, ev, look, put_mk, keep_mk, keepL, binV, binC, GV.getT, Value.oneCell', cond_true, cond_false, Nat.reduceEqDiff, ↓reduceIte, List.nil_append, Bool.true_and, Bool.not_true, Bool.not_false, true_and, ↓br_tt, ↓br_ft, br_t, br_f, getT_nil, fits_s, gTreeNode_fld0, gTreeNode_get0]
          have hc1 : cur = 1 := by simpa using hcn
          subst hc1
          have hr : rest = [] := by
            cases rest with
            | nil => rfl
            | cons m rest => exact absurd hW.2.1 (by decide)
          subst hr
          rw [List.append_nil] at hdr
          subst hdr
          refine ⟨fun h1 => ?_, fun h1 => ?_⟩
          · obtain ⟨eg, ee⟩ := hres (hal.1 h1)
            refine ⟨fun _ => ⟨fun h => by simp [eg] at h, fun _ => ?_⟩, fun h => by simp [ee] at h⟩
            subst hQ
            simp only [loopQ_n]
            refine ⟨i + 1, ?_, ?_, ge_of ?_ ?_ rfl rfl rfl⟩
            · omega
            · omega
            · simp only [frIn, look, Nat.reduceEqDiff, ↓reduceIte, Bool.and_true, Bool.true_and, true_and, and_true]
              rw [wrap_n (by omega)]
              try simp
            · simp [pvIn, look]
          · subst hQ
            simp only [loopQ_n]
            refine ⟨i + 1, ?_, ?_, ge_of ?_ ?_ rfl rfl rfl⟩
            · omega
            · omega
            · simp only [frIn, look, Nat.reduceEqDiff, ↓reduceIte, Bool.and_true, Bool.true_and, true_and, and_true]
              rw [wrap_n (by omega)]
              try simp
            · simp [pvIn, look]
      · obtain rfl := (hway hb l hl).2 (by omega)
        simp (maxSteps := 2000000) only [retS, show ((3 : Int) == 3) = true from rfl, vc_skip, vc_exit, vc_seq, vc_rg, vc_ite, thenQ_n, thenQ_e, blockQ_e, kKeep_eq, segs_nil, segs_n, ops_nil, ops_cons, vcOp, ev, look, put_mk, keep_mk, keepL, binV, binC, Value.oneCell', cond_true, Nat.reduceEqDiff, ↓reduceIte, Bool.true_and, true_and, ↓br_tt, ↓br_ft]
        subst hQ; simp only [loopQ_n]; refine ⟨i + 1, ?_, ?_, ge_of ?_ ?_ rfl rfl rfl⟩
        · omega
        · omega
        · simp only [frIn, look, Nat.reduceEqDiff, ↓reduceIte, Bool.and_true, Bool.true_and, true_and, and_true]
          rw [wrap_n (by omega)]
          try simp
        · simp [pvIn, look]
    · obtain rfl := h201 hb
      simp (maxSteps := 2000000) only [retS, show ((201 : Int) != 201) = false from rfl, vc_skip, vc_exit, vc_seq, vc_rg, vc_ite, thenQ_n, thenQ_e, blockQ_e, kKeep_eq, segs_nil, segs_n, ops_nil, ops_cons, vcOp, ev, look, put_mk, keep_mk, keepL, binV, binC, Value.oneCell', cond_true, Nat.reduceEqDiff, ↓reduceIte, Bool.true_and, true_and, ↓br_tt, ↓br_ft]
      subst hQ; simp only [loopQ_n]; refine ⟨i + 1, ?_, ?_, ge_of ?_ ?_ rfl rfl rfl⟩
      · omega
      · omega
      · simp only [frIn, look, Nat.reduceEqDiff, ↓reduceIte, Bool.and_true, Bool.true_and, true_and, and_true]
        rw [wrap_n (by omega)]
        try simp
      · simp [pvIn, look]
  · subst hQ
    simp (maxSteps := 2000000) only [vc_ret, vc_seq, vc_rg, thenQ_n, blockQ_e, kKeep_eq, loopQ_e, segs_nil, segs_n, ops_nil, ops_cons, vcOp, ev, look, put_mk, keep_mk, keepL, Value.oneCell', cond_true, ↓reduceIte, finW_r, resL, resOne]
end Go.Proofs.YtnoeabmpdjpfaaaGreatDoor.Vc

/- PathFinds: where what is read is of bulk at most the row's bound, the law answers true and leaves its arguments as they were: the row with a bound, and its card. -/
set_option linter.unusedVariables false
set_option linter.unusedSimpArgs false
set_option maxRecDepth 100000
namespace Go.Proofs.YtnoeabmpdjpfaaaGreatDoor.Vc
open Go Go.Proofs Go.Proofs.YtnoeabmpdjpfaaaGreatDoor Go.ChangeShapes Go.WideShapes Go.ChangeAt

theorem zOwn : ownKnob Tryz.prog.godebug = none := by kernel_rfl
theorem zLaidOut : laidOutB Tryz.prog = true := by kernel_rfl
/-- The library's one variable holds some number. -/
theorem globI {W : World} (h : W.ShapedOpen Tryz.prog) : Pa.GlobI W.ph := by
  obtain ⟨m, hm⟩ := cell_of_shapedOpen_int (P := Tryz.prog) (g := 0) (t := 3) (zero := #[.int .i64 0]) h (of_decide_eq_true (by kernel_rfl)) (by kernel_rfl) rfl (by kernel_rfl) (by kernel_rfl) Tryz.underlying3
  unfold World.cell? at hm
  split at hm
  · rename_i c ty fz hb
    simp only [Option.isSome_none, Bool.false_eq_true, if_false] at hm
    exact ⟨c, ty, fz, m, hb, hm⟩
  · cases hm
theorem PathFinds_open {H : Type} (enc : TypeId × Value → H) (W : World) (base : Nat) (vs : List Value) (h : RdBs enc Tryz.prog W base [22] vs 1048576) (hsh : W.ShapedOpen Tryz.prog) : Spec Tryz.prog f_law20_PathFinds vs PH.no W fun rs _ => rs = [.s (.bool true)] := by
  obtain ⟨v1, vs, a, b, rfl, hab, h1, g1, h⟩ := rdbs_cons h
  obtain rfl := rdbs_nil h
  obtain ⟨ops, k1, l1, o1⟩ := open_Ops h1 g1
  exact finds_spec W v1 ops (by omega) o1 W.ph (fun _ _ h => h) k1 W.ph (fun _ _ h => h) (globI hsh)

/-! ### A world for the witness -/
noncomputable def laidWorld (os : Os) : World :=
  let w0 := World.holding Tryz.prog os ⟨#[], #[], []⟩
  let put (h : Array Obj) (g : Nat) (cs : Array Value) : Array Obj := h.modify g fun
    | .cells _ t frozen => .cells cs t frozen
    | o => o
  let h1 := put w0.heap 1 (Pinned.utf8FirstZ.map fun z : Nat => Value.int .u8 (z : Int)).toArray
  let h2 := put h1 2 (([128, 191, 160, 191, 128, 159, 144, 191, 128, 143, 0, 0, 0, 0, 0, 0, 0, 0, 0, 0, 0, 0, 0, 0, 0, 0, 0, 0, 0, 0, 0, 0] : List Nat).map fun z : Nat => Value.int .u8 (z : Int)).toArray
  { w0 with heap := h2 }
theorem laid_met1 (os : Os) (args : Array Value) : laidMet Tryz.prog Rows.pathFindsUptoRow.laid ((laidWorld os).forCall (fun _ _ => 0) ⟨#[], args, []⟩).memory :=
  laidMet_of_run' 8 (by kernel_rfl) (by kernel_rfl)
theorem PathFinds_reads (os : Os) {H : Type} (enc : TypeId × Value → H) : ∃ places, DataW.whole enc Tryz.prog ((laidWorld os).forCall (fun _ _ => 0) ⟨#[], #[.slice none 0 0], []⟩).memory Tryz.f3.params.toList Rows.pathFindsSpec.vars false #[Value.slice none 0 0].toList 8 = some ([.nil], [], places) :=
  ⟨[], by kernel_rfl⟩
theorem PathFinds_lifted (os : Os) (started : os.Started) (H : Type) (enc : TypeId × Value → H) (F : Stop.Interp) :
    ReturnsInHanded {} Tryz.checked os f_law20_PathFinds .any ((Rows.OpenSpec.upto Rows.pathFindsSpec).preRow enc Tryz.prog Tryz.f3 Rows.pathFindsUptoRow.domain false Rows.pathFindsUptoRow.laid) (((Rows.OpenSpec.upto Rows.pathFindsSpec).at F).post enc Tryz.prog Tryz.f3 false true false false) := by
  obtain ⟨places, hx⟩ := PathFinds_reads os enc
  exact law_lifted_upto (C := Tryz.checked) zOwn zLaidOut started (by kernel_rfl) Tryz.func3
    (witness_row_at (enc := enc) (C := Tryz.checked) false (laidWorld os) #[.slice none 0 0] rfl (by kernel_rfl) (by kernel_rfl) (by kernel_rfl)
      (OpenSpec.preRow_of_cond 8 hx (by kernel_rfl) (fun k hk => by cases hk; kernel_rfl) (by kernel_rfl) (laid_met1 os _)))
    (by kernel_rfl) rfl (tb := 4) (by kernel_rfl) (by kernel_rfl) (ts := [22]) (by kernel_rfl) (fun ds h => by match ds, h with | [d0], _ => rfl) (PathFinds_open enc)
theorem PathFinds_upto : Rows.PathFindsUptoSaid :=
  OpenClaim.holds_of_cond f_law20_PathFinds Tryz.f3 rfl rfl rfl rfl rfl rfl rfl ⟨rfl, rfl, rfl, rfl, rfl⟩ rfl rfl rfl rfl rfl (by kernel_rfl) Tryz.func3 (by kernel_rfl)
    (of_decide_eq_true (by kernel_rfl)) (by unfold Func.isWrapper; first | (rw [if_pos (by decide +kernel)]; kernel_rfl) | (rw [if_neg (by decide +kernel)]; exact ⟨rfl, rfl⟩))
    (fun os started H enc _ F => by rw [OpenClaim.pre_eq_preRow]; exact PathFinds_lifted os started H enc F)
theorem PathFinds_plain (f : FuncId) (fn : Func) (hf : Tryz.pinned.checked.prog.funcNamed "orchard/orchardlaw20.PathFinds" = some f) (hfn : Tryz.pinned.checked.prog.funcs[f]? = some fn) :
    false = Tryz.pinned.checked.prog.looks [] ∧ ∀ (j : Nat) t, fn.params[j]? = some t → Tryz.pinned.checked.prog.wantsStandIn t = false := by
  obtain rfl : f = 3 := Option.some.inj ((show Tryz.prog.funcNamed "orchard/orchardlaw20.PathFinds" = some 3 by kernel_rfl).symm.trans hf) |>.symm
  obtain rfl : fn = Tryz.f3 := (Option.some.inj (Tryz.func3.symm.trans hfn)).symm
  refine ⟨by kernel_rfl, fun j t ht => ?_⟩
  have hall : (Tryz.f3.params.toList.all fun t => !Tryz.pinned.checked.prog.wantsStandIn t) = true := by kernel_rfl
  have := List.all_eq_true.1 hall t (List.mem_of_getElem? (by simpa using ht))
  simpa using this
theorem PathFinds_card : Rows.PathFindsUptoCardSaid :=
  Claim7.holds_tied_plain_at .later [] _ _ _ _ PathFinds_upto (fun _ h => by cases h) (by kernel_rfl) (fun _ h => by cases h) pathFindsUpto_row_tie rfl ⟨rfl, rfl⟩ (by kernel_rfl) rfl PathFinds_plain (by kernel_rfl)
#print axioms PathFinds_card
end Go.Proofs.YtnoeabmpdjpfaaaGreatDoor.Vc

