/- Part 5 of what a law of this seat rests on. -/
import Derived.Test.YtnoeabmpdjpfaaaGreatDoorProg
import Derived.Lib.Walk
import Derived.Lib.Small
import Derived.StillTailTactics
import Derived.Shelf.SlSortCmp.InsertionK
import Derived.Shelf.SlLaysF0
import Derived.Ground.SlsfProg
import Derived.Shelf.SlSortCmp.WholeK
import Derived.Shelf.SlSortCmp.NoneTotal
import Derived.Test.YtnoeabmpdjpfaaaGreatDoorZPathLeadsU4
/- Join; two names' lists are the same; both packages do anything. -/
set_option linter.unusedVariables false
set_option linter.unusedSimpArgs false
set_option maxRecDepth 100000
namespace Go.Proofs.YtnoeabmpdjpfaaaGreatDoor.Vc.Pa
open Go Go.Proofs

def sumL (ns : List (List UInt8)) : Nat := (ns.map List.length).sum + ns.length
theorem sumL_mem {ns : List (List UInt8)} {n : List UInt8} (h : n ∈ ns) : n.length ≤ sumL ns := by
  have : n.length ≤ (ns.map List.length).sum := by
    induction ns with
    | nil => cases h
    | cons x r ih =>
      rcases List.mem_cons.1 h with rfl | h
      · simp
      · have := ih h; simp; omega
  unfold sumL; omega
theorem sumL_len (ns : List (List UInt8)) : ns.length ≤ sumL ns := by unfold sumL; omega

theorem mkS_app (a b : List UInt8) : mkS a ++ mkS b = mkS (a ++ b) := by
  apply congrArg (fun l : List UInt8 => (⟨l.toArray⟩ : ByteArray)) ; rfl

theorem pJoin_spec (w : World) (v : Value) (ns : List (List UInt8)) (hb : sumL ns ≤ 137438953472) (u : PH) (hu : u.le w) (h : SlR u v 1 (ns.map gN)) :
    Spec Tryz.prog f_path_Join [v] PH.no w fun rs _ => rs = [gN (joinA ns).1, .s (.int .i64 (joinA ns).2)] := by
  refine spec_val k_path_Join (Qf := fun rs => rs = [gN (joinA ns).1, .s (.int .i64 (joinA ns).2)]) [.ro v 1 (.s (.string ⟨#[]⟩)) (ns.map gN)] (by simp) (by simpa [AV.ok, u0_no] using h.up hu.sub) ?_
  simp (maxSteps := 2000000) only [c_path_Join, vc_skip, vc_ret, vc_exit, vc_seq, vc_block, vc_scope, scopeQ_n, scopeQ_r, scopeQ_e, vc_rg, vc_rgq, vc_rga, vc_ite, thenQ_n, thenQ_r, thenQ_e, blockQ_n, blockQ_r, blockQ_e, kKeep_eq, loopQ_r, loopQ_e, loopQ_n, finQ_r, finQ_n, segs_nil, segs_n, segs_g, ops_nil, ops_cons, qsegs_nil, qsegs_n, qsegs_g, qops_nil, qops_cons, ot_done, ot_op, ot_or, ot_held, oh_done, oh_op, oh_or, oh_first, oh_firstg, heldC_eq, heldF_eq, heldOk, heldK, ldH, heldM_self, heldM_one, heldM_two, heldM_three, List.contains_cons, List.contains_nil, Bool.or_false, Bool.or_true, Bool.true_or, Bool.false_or, vcqOp, vcOp, isRd, RO.isGh, skip_mk, skipL, ev, evL, gvL, scL, look, updL, put_mk, put_mk0, keep_mk, keepL, rowE, rowD, bndN, binV, binC, unV, GV.getT, GV.fld, GV.sz, GV.same, GV.setT, Value.oneCell', cond_true, cond_false, Nat.reduceEqDiff, Nat.reduceAdd, Nat.reduceMul, Nat.reduceSub, Nat.reduceBEq, Nat.reduceLeDiff, ↓reduceIte, reduceCtorEq, List.nil_append, List.cons_append, List.append_nil, Nat.zero_add, Nat.add_zero, Bool.and_true, Bool.true_and, Bool.not_true, Bool.not_false, BEq.rfl, decide_true, decide_false, true_and, and_true, initF, initP, List.map_cons, List.map_nil, Option.map_some, szAll, List.length_cons, List.length_nil, finW_r, finW_n, resL, resOne, Option.bind_some, true_imp_iff, false_imp_iff, Bool.true_eq_false, Bool.false_eq_true, Int.toNat_natCast, Int.reduceToNat, Int.reduceLE, Int.reduceLT, Int.reduceAdd, Int.reduceSub, Int.reduceEq, decide_eq_true_eq, decide_eq_false_iff_not, kill, SV.mentions, ne_eq, not_false_eq_true, not_true_eq_false, List.drop_zero, List.take_succ_cons, List.take_zero, dOk, ↓br_tt, ↓br_ff, ↓br_tf, ↓br_ft, br_t, br_f, Bool.bne_false, Bool.bne_true, GV.bldT, GV.bldC, gVec_get, gVec_set, gVec_arr, gVec_fits, gVec_sz, gVec_sameT, gVec_zero, gVec_isS, gVec2_get, gVec2_arr, gVec2_fits, gVec2_sz, gVec2_sameT, gVec2_zero, gVec2_set, same_int, getT_nil, setT_nil, getD_gi, List.length_map, fits_s, fits_c, fits_ar, arr_ar, get_nil, mkS_size, getD_gN, getD_gb, mkS_at, mkS_e0, mkS_e46, mkS_e4646, mkS_e47, mkS_ext, List.length_map]
  refine call_is _ [.s (.int .i64 (wrongA ns))] rfl rfl (fun w' vs hv' hw => ?_) ?_
  · obtain ⟨v', vs, rfl, g1, hv'⟩ := argsV_row (z := 1) (xs := ns.map gN) rfl (by simp) hv'
    obtain rfl := argsV_nil hv'
    intro _
    have := sumL_len ns
    exact wrong_spec w' v' ns (by omega) (fun n hn => by have := sumL_mem hn; omega) w'.ph (fun _ _ h => h) g1
  simp (maxSteps := 2000000) only [retS, beq_iff_eq, beq_eq_false_iff_ne, bne_iff_ne, bne_eq_false_iff_eq, vc_skip, vc_ret, vc_exit, vc_seq, vc_block, vc_scope, scopeQ_n, scopeQ_r, scopeQ_e, vc_rg, vc_rgq, vc_rga, vc_ite, thenQ_n, thenQ_r, thenQ_e, blockQ_n, blockQ_r, blockQ_e, kKeep_eq, loopQ_r, loopQ_e, loopQ_n, finQ_r, finQ_n, segs_nil, segs_n, segs_g, ops_nil, ops_cons, qsegs_nil, qsegs_n, qsegs_g, qops_nil, qops_cons, ot_done, ot_op, ot_or, ot_held, oh_done, oh_op, oh_or, oh_first, oh_firstg, heldC_eq, heldF_eq, heldOk, heldK, ldH, heldM_self, heldM_one, heldM_two, heldM_three, List.contains_cons, List.contains_nil, Bool.or_false, Bool.or_true, Bool.true_or, Bool.false_or, vcqOp, vcOp, isRd, RO.isGh, skip_mk, skipL, ev, evL, gvL, scL, look, updL, put_mk, put_mk0, keep_mk, keepL, rowE, rowD, bndN, binV, binC, unV, GV.getT, GV.fld, GV.sz, GV.same, GV.setT, Value.oneCell', cond_true, cond_false, Nat.reduceEqDiff, Nat.reduceAdd, Nat.reduceMul, Nat.reduceSub, Nat.reduceBEq, Nat.reduceLeDiff, ↓reduceIte, reduceCtorEq, List.nil_append, List.cons_append, List.append_nil, Nat.zero_add, Nat.add_zero, Bool.and_true, Bool.true_and, Bool.not_true, Bool.not_false, BEq.rfl, decide_true, decide_false, true_and, and_true, initF, initP, List.map_cons, List.map_nil, Option.map_some, szAll, List.length_cons, List.length_nil, finW_r, finW_n, resL, resOne, Option.bind_some, true_imp_iff, false_imp_iff, Bool.true_eq_false, Bool.false_eq_true, Int.toNat_natCast, Int.reduceToNat, Int.reduceLE, Int.reduceLT, Int.reduceAdd, Int.reduceSub, Int.reduceEq, decide_eq_true_eq, decide_eq_false_iff_not, kill, SV.mentions, ne_eq, not_false_eq_true, not_true_eq_false, List.drop_zero, List.take_succ_cons, List.take_zero, dOk, ↓br_tt, ↓br_ff, ↓br_tf, ↓br_ft, br_t, br_f, Bool.bne_false, Bool.bne_true, GV.bldT, GV.bldC, gVec_get, gVec_set, gVec_arr, gVec_fits, gVec_sz, gVec_sameT, gVec_zero, gVec_isS, gVec2_get, gVec2_arr, gVec2_fits, gVec2_sz, gVec2_sameT, gVec2_zero, gVec2_set, same_int, getT_nil, setT_nil, getD_gi, List.length_map, fits_s, fits_c, fits_ar, arr_ar, get_nil, mkS_size, getD_gN, getD_gb, mkS_at, mkS_e0, mkS_e46, mkS_e4646, mkS_e47, mkS_ext, List.length_map]
  refine ⟨fun h1 => ?_, fun h1 => ?_⟩
  · rw [joinA, if_neg h1]; rfl
  refine call_is _ [gN (Lib.join ns [47])] rfl rfl (fun w' vs hv' hw => ?_) ?_
  · obtain ⟨v', vs, rfl, g1, hv'⟩ := argsV_row (z := 1) (xs := ns.map gN) rfl (by simp) hv'
    obtain ⟨vs, rfl, _, hv'⟩ := argsV_g hv'
    obtain rfl := argsV_nil hv'
    intro _
    exact Join_spec w' v' ns (by unfold sumL at hb; omega) w'.ph (fun _ _ h => h) g1
  simp (maxSteps := 2000000) only [retS, gN, vc_skip, vc_ret, vc_exit, vc_seq, vc_block, vc_scope, scopeQ_n, scopeQ_r, scopeQ_e, vc_rg, vc_rgq, vc_rga, vc_ite, thenQ_n, thenQ_r, thenQ_e, blockQ_n, blockQ_r, blockQ_e, kKeep_eq, loopQ_r, loopQ_e, loopQ_n, finQ_r, finQ_n, segs_nil, segs_n, segs_g, ops_nil, ops_cons, qsegs_nil, qsegs_n, qsegs_g, qops_nil, qops_cons, ot_done, ot_op, ot_or, ot_held, oh_done, oh_op, oh_or, oh_first, oh_firstg, heldC_eq, heldF_eq, heldOk, heldK, ldH, heldM_self, heldM_one, heldM_two, heldM_three, List.contains_cons, List.contains_nil, Bool.or_false, Bool.or_true, Bool.true_or, Bool.false_or, vcqOp, vcOp, isRd, RO.isGh, skip_mk, skipL, ev, evL, gvL, scL, look, updL, put_mk, put_mk0, keep_mk, keepL, rowE, rowD, bndN, binV, binC, unV, GV.getT, GV.fld, GV.sz, GV.same, GV.setT, Value.oneCell', cond_true, cond_false, Nat.reduceEqDiff, Nat.reduceAdd, Nat.reduceMul, Nat.reduceSub, Nat.reduceBEq, Nat.reduceLeDiff, ↓reduceIte, reduceCtorEq, List.nil_append, List.cons_append, List.append_nil, Nat.zero_add, Nat.add_zero, Bool.and_true, Bool.true_and, Bool.not_true, Bool.not_false, BEq.rfl, decide_true, decide_false, true_and, and_true, initF, initP, List.map_cons, List.map_nil, Option.map_some, szAll, List.length_cons, List.length_nil, finW_r, finW_n, resL, resOne, Option.bind_some, true_imp_iff, false_imp_iff, Bool.true_eq_false, Bool.false_eq_true, Int.toNat_natCast, Int.reduceToNat, Int.reduceLE, Int.reduceLT, Int.reduceAdd, Int.reduceSub, Int.reduceEq, decide_eq_true_eq, decide_eq_false_iff_not, kill, SV.mentions, ne_eq, not_false_eq_true, not_true_eq_false, List.drop_zero, List.take_succ_cons, List.take_zero, dOk, ↓br_tt, ↓br_ff, ↓br_tf, ↓br_ft, br_t, br_f, Bool.bne_false, Bool.bne_true, GV.bldT, GV.bldC, gVec_get, gVec_set, gVec_arr, gVec_fits, gVec_sz, gVec_sameT, gVec_zero, gVec_isS, gVec2_get, gVec2_arr, gVec2_fits, gVec2_sz, gVec2_sameT, gVec2_zero, gVec2_set, same_int, getT_nil, setT_nil, getD_gi, List.length_map, fits_s, fits_c, fits_ar, arr_ar, get_nil, mkS_size, getD_gN, getD_gb, mkS_at, mkS_e0, mkS_e46, mkS_e4646, mkS_e47, mkS_ext, List.length_map]
  have hjl := join_len ns
  rw [joinA, if_pos h1]
  refine ⟨?_, ?_⟩
  · have : ({ data := #[47] } : ByteArray).size = 1 := rfl
    unfold sumL at hb
    omega
  · rw [show ({ data := #[47] } : ByteArray) = mkS [47] from rfl, mkS_app]; rfl

theorem join_step (ns : List (List UInt8)) (n : List UInt8) : ((ns ++ [n]).map (fun x => (47 : UInt8) :: x)).flatten = (ns.map (fun x => (47 : UInt8) :: x)).flatten ++ 47 :: n := by simp
theorem join_flat : ∀ ns : List (List UInt8), ns ≠ [] → (ns.map (fun x => (47 : UInt8) :: x)).flatten = joinS ns
  | [], h => absurd rfl h
  | x :: r, _ => by
    unfold joinS
    rw [Lib.join_cons]
    have : ∀ r : List (List UInt8), (r.map (fun x => (47 : UInt8) :: x)).flatten = Lib.joinTail [47] r := by
      intro r
      induction r with
      | nil => rfl
      | cons y r ih => rw [List.map_cons, List.flatten_cons, ih]; rfl
    rw [List.map_cons, List.flatten_cons, this]; rfl
theorem flat_len (ns : List (List UInt8)) : ((ns.map (fun x => (47 : UInt8) :: x)).flatten).length = sumL ns := by
  induction ns with
  | nil => rfl
  | cons x r ih => simp only [List.map_cons, List.flatten_cons, List.length_append, ih, sumL, List.length_cons, List.sum_cons]; omega
theorem sumL_take (ns : List (List UInt8)) (i : Nat) : sumL (ns.take i) ≤ sumL ns := by
  have := flat_len (ns.take i)
  have h2 := flat_len ns
  rw [← flat_len, ← flat_len]
  have e : (ns.map (fun x => (47 : UInt8) :: x)).flatten = ((ns.take i).map (fun x => (47 : UInt8) :: x)).flatten ++ ((ns.drop i).map (fun x => (47 : UInt8) :: x)).flatten := by
    rw [← List.flatten_append, ← List.map_append, List.take_append_drop]
  rw [e, List.length_append]
  omega

theorem refJoin_spec (w : World) (v : Value) (ns : List (List UInt8)) (hb : sumL ns ≤ 137438953472) (u : PH) (hu : u.le w) (h : SlR u v 1 (ns.map gN)) :
    Spec Tryz.prog f_ref20_Join [v] PH.no w fun rs _ => rs = [gN (joinA ns).1, .s (.int .i64 (joinA ns).2)] := by
  refine spec_val k_ref20_Join (Qf := fun rs => rs = [gN (joinA ns).1, .s (.int .i64 (joinA ns).2)]) [.ro v 1 (.s (.string ⟨#[]⟩)) (ns.map gN)] (by simp) (by simpa [AV.ok, u0_no] using h.up hu.sub) ?_
  simp (maxSteps := 2000000) only [c_ref20_Join, vc_skip, vc_ret, vc_exit, vc_seq, vc_block, vc_scope, scopeQ_n, scopeQ_r, scopeQ_e, vc_rg, vc_rgq, vc_rga, vc_ite, thenQ_n, thenQ_r, thenQ_e, blockQ_n, blockQ_r, blockQ_e, kKeep_eq, loopQ_r, loopQ_e, loopQ_n, finQ_r, finQ_n, segs_nil, segs_n, segs_g, ops_nil, ops_cons, qsegs_nil, qsegs_n, qsegs_g, qops_nil, qops_cons, ot_done, ot_op, ot_or, ot_held, oh_done, oh_op, oh_or, oh_first, oh_firstg, heldC_eq, heldF_eq, heldOk, heldK, ldH, heldM_self, heldM_one, heldM_two, heldM_three, List.contains_cons, List.contains_nil, Bool.or_false, Bool.or_true, Bool.true_or, Bool.false_or, vcqOp, vcOp, isRd, RO.isGh, skip_mk, skipL, ev, evL, gvL, scL, look, updL, put_mk, put_mk0, keep_mk, keepL, rowE, rowD, bndN, binV, binC, unV, GV.getT, GV.fld, GV.sz, GV.same, GV.setT, Value.oneCell', cond_true, cond_false, Nat.reduceEqDiff, Nat.reduceAdd, Nat.reduceMul, Nat.reduceSub, Nat.reduceBEq, Nat.reduceLeDiff, ↓reduceIte, reduceCtorEq, List.nil_append, List.cons_append, List.append_nil, Nat.zero_add, Nat.add_zero, Bool.and_true, Bool.true_and, Bool.not_true, Bool.not_false, BEq.rfl, decide_true, decide_false, true_and, and_true, initF, initP, List.map_cons, List.map_nil, Option.map_some, szAll, List.length_cons, List.length_nil, finW_r, finW_n, resL, resOne, Option.bind_some, true_imp_iff, false_imp_iff, Bool.true_eq_false, Bool.false_eq_true, Int.toNat_natCast, Int.reduceToNat, Int.reduceLE, Int.reduceLT, Int.reduceAdd, Int.reduceSub, Int.reduceEq, decide_eq_true_eq, decide_eq_false_iff_not, kill, SV.mentions, ne_eq, not_false_eq_true, not_true_eq_false, List.drop_zero, List.take_succ_cons, List.take_zero, dOk, ↓br_tt, ↓br_ff, ↓br_tf, ↓br_ft, br_t, br_f, Bool.bne_false, Bool.bne_true, GV.bldT, GV.bldC, gVec_get, gVec_set, gVec_arr, gVec_fits, gVec_sz, gVec_sameT, gVec_zero, gVec_isS, gVec2_get, gVec2_arr, gVec2_fits, gVec2_sz, gVec2_sameT, gVec2_zero, gVec2_set, same_int, getT_nil, setT_nil, getD_gi, List.length_map, fits_s, fits_c, fits_ar, arr_ar, get_nil, mkS_size, getD_gN, getD_gb, mkS_at, mkS_e0, mkS_e46, mkS_e4646, mkS_e47, mkS_ext, List.length_map]
  have hln := sumL_len ns
  refine vc_loop (ι := Nat) (fun i => ⟨[(0, .row 0 0 (ns.length)), (4, .g (.s (.string (mkS ((ns.take i).map (fun x => (47 : UInt8) :: x)).flatten)))), (5, .g (.s (.int .i64 (i))))], [(0, .ro 1 (.s (.string ⟨#[]⟩)) (ns.map gN))], [], PH.no⟩) (fun i => i ≤ ns.length ∧ ∀ j, j < i → nameA (ns.getD j []) = true) (fun i => ns.length - i) 0 (by simp) (ge_of ?_ ?_ rfl rfl rfl) ?_
  · simp [frIn, look, mkS]
  · simp [pvIn, look]
  rintro i ⟨hi, hj⟩
  generalize hQ : loopQ _ _ _ _ _ = Q
  simp (maxSteps := 2000000) only [c_ref20_Join_L0, vc_skip, vc_ret, vc_exit, vc_seq, vc_block, vc_scope, scopeQ_n, scopeQ_r, scopeQ_e, vc_rg, vc_rgq, vc_rga, vc_ite, thenQ_n, thenQ_r, thenQ_e, blockQ_n, blockQ_r, blockQ_e, kKeep_eq, loopQ_r, loopQ_e, loopQ_n, finQ_r, finQ_n, segs_nil, segs_n, segs_g, ops_nil, ops_cons, qsegs_nil, qsegs_n, qsegs_g, qops_nil, qops_cons, ot_done, ot_op, ot_or, ot_held, oh_done, oh_op, oh_or, oh_first, oh_firstg, heldC_eq, heldF_eq, heldOk, heldK, ldH, heldM_self, heldM_one, heldM_two, heldM_three, List.contains_cons, List.contains_nil, Bool.or_false, Bool.or_true, Bool.true_or, Bool.false_or, vcqOp, vcOp, isRd, RO.isGh, skip_mk, skipL, ev, evL, gvL, scL, look, updL, put_mk, put_mk0, keep_mk, keepL, rowE, rowD, bndN, binV, binC, unV, GV.getT, GV.fld, GV.sz, GV.same, GV.setT, Value.oneCell', cond_true, cond_false, Nat.reduceEqDiff, Nat.reduceAdd, Nat.reduceMul, Nat.reduceSub, Nat.reduceBEq, Nat.reduceLeDiff, ↓reduceIte, reduceCtorEq, List.nil_append, List.cons_append, List.append_nil, Nat.zero_add, Nat.add_zero, Bool.and_true, Bool.true_and, Bool.not_true, Bool.not_false, BEq.rfl, decide_true, decide_false, true_and, and_true, initF, initP, List.map_cons, List.map_nil, Option.map_some, szAll, List.length_cons, List.length_nil, finW_r, finW_n, resL, resOne, Option.bind_some, true_imp_iff, false_imp_iff, Bool.true_eq_false, Bool.false_eq_true, Int.toNat_natCast, Int.reduceToNat, Int.reduceLE, Int.reduceLT, Int.reduceAdd, Int.reduceSub, Int.reduceEq, decide_eq_true_eq, decide_eq_false_iff_not, kill, SV.mentions, ne_eq, not_false_eq_true, not_true_eq_false, List.drop_zero, List.take_succ_cons, List.take_zero, dOk, ↓br_tt, ↓br_ff, ↓br_tf, ↓br_ft, br_t, br_f, Bool.bne_false, Bool.bne_true, GV.bldT, GV.bldC, gVec_get, gVec_set, gVec_arr, gVec_fits, gVec_sz, gVec_sameT, gVec_zero, gVec_isS, gVec2_get, gVec2_arr, gVec2_fits, gVec2_sz, gVec2_sameT, gVec2_zero, gVec2_set, same_int, getT_nil, setT_nil, getD_gi, List.length_map, fits_s, fits_c, fits_ar, arr_ar, get_nil, mkS_size, getD_gN, getD_gb, mkS_at, mkS_e0, mkS_e46, mkS_e4646, mkS_e47, mkS_ext, List.length_map]
  refine ⟨fun hlt => ⟨by omega, ?_⟩, fun hlt => ?_⟩
  · have hmem : ns.getD i [] ∈ ns := by
      rw [List.getD_eq_getElem?_getD, List.getElem?_eq_getElem (by omega)]; exact List.getElem_mem _
    have hml := sumL_mem hmem
    refine call_fnv (ref_Name_fn (ns.getD i []) (by omega)) rfl rfl rfl fun _ => ?_
    simp (maxSteps := 2000000) only [retS, vc_skip, vc_ret, vc_exit, vc_seq, vc_block, vc_scope, scopeQ_n, scopeQ_r, scopeQ_e, vc_rg, vc_rgq, vc_rga, vc_ite, thenQ_n, thenQ_r, thenQ_e, blockQ_n, blockQ_r, blockQ_e, kKeep_eq, loopQ_r, loopQ_e, loopQ_n, finQ_r, finQ_n, segs_nil, segs_n, segs_g, ops_nil, ops_cons, qsegs_nil, qsegs_n, qsegs_g, qops_nil, qops_cons, ot_done, ot_op, ot_or, ot_held, oh_done, oh_op, oh_or, oh_first, oh_firstg, heldC_eq, heldF_eq, heldOk, heldK, ldH, heldM_self, heldM_one, heldM_two, heldM_three, List.contains_cons, List.contains_nil, Bool.or_false, Bool.or_true, Bool.true_or, Bool.false_or, vcqOp, vcOp, isRd, RO.isGh, skip_mk, skipL, ev, evL, gvL, scL, look, updL, put_mk, put_mk0, keep_mk, keepL, rowE, rowD, bndN, binV, binC, unV, GV.getT, GV.fld, GV.sz, GV.same, GV.setT, Value.oneCell', cond_true, cond_false, Nat.reduceEqDiff, Nat.reduceAdd, Nat.reduceMul, Nat.reduceSub, Nat.reduceBEq, Nat.reduceLeDiff, ↓reduceIte, reduceCtorEq, List.nil_append, List.cons_append, List.append_nil, Nat.zero_add, Nat.add_zero, Bool.and_true, Bool.true_and, Bool.not_true, Bool.not_false, BEq.rfl, decide_true, decide_false, true_and, and_true, initF, initP, List.map_cons, List.map_nil, Option.map_some, szAll, List.length_cons, List.length_nil, finW_r, finW_n, resL, resOne, Option.bind_some, true_imp_iff, false_imp_iff, Bool.true_eq_false, Bool.false_eq_true, Int.toNat_natCast, Int.reduceToNat, Int.reduceLE, Int.reduceLT, Int.reduceAdd, Int.reduceSub, Int.reduceEq, decide_eq_true_eq, decide_eq_false_iff_not, kill, SV.mentions, ne_eq, not_false_eq_true, not_true_eq_false, List.drop_zero, List.take_succ_cons, List.take_zero, dOk, ↓br_tt, ↓br_ff, ↓br_tf, ↓br_ft, br_t, br_f, Bool.bne_false, Bool.bne_true, GV.bldT, GV.bldC, gVec_get, gVec_set, gVec_arr, gVec_fits, gVec_sz, gVec_sameT, gVec_zero, gVec_isS, gVec2_get, gVec2_arr, gVec2_fits, gVec2_sz, gVec2_sameT, gVec2_zero, gVec2_set, same_int, getT_nil, setT_nil, getD_gi, List.length_map, fits_s, fits_c, fits_ar, arr_ar, get_nil, mkS_size, getD_gN, getD_gb, mkS_at, mkS_e0, mkS_e46, mkS_e4646, mkS_e47, mkS_ext, List.length_map]
    refine ⟨fun h => ?_, fun h => ?_⟩
    · subst hQ
      simp (maxSteps := 2000000) only [vc_skip, vc_ret, vc_exit, vc_seq, vc_block, vc_scope, scopeQ_n, scopeQ_r, scopeQ_e, vc_rg, vc_rgq, vc_rga, vc_ite, thenQ_n, thenQ_r, thenQ_e, blockQ_n, blockQ_r, blockQ_e, kKeep_eq, loopQ_r, loopQ_e, loopQ_n, finQ_r, finQ_n, segs_nil, segs_n, segs_g, ops_nil, ops_cons, qsegs_nil, qsegs_n, qsegs_g, qops_nil, qops_cons, ot_done, ot_op, ot_or, ot_held, oh_done, oh_op, oh_or, oh_first, oh_firstg, heldC_eq, heldF_eq, heldOk, heldK, ldH, heldM_self, heldM_one, heldM_two, heldM_three, List.contains_cons, List.contains_nil, Bool.or_false, Bool.or_true, Bool.true_or, Bool.false_or, vcqOp, vcOp, isRd, RO.isGh, skip_mk, skipL, ev, evL, gvL, scL, look, updL, put_mk, put_mk0, keep_mk, keepL, rowE, rowD, bndN, binV, binC, unV, GV.getT, GV.fld, GV.sz, GV.same, GV.setT, Value.oneCell', cond_true, cond_false, Nat.reduceEqDiff, Nat.reduceAdd, Nat.reduceMul, Nat.reduceSub, Nat.reduceBEq, Nat.reduceLeDiff, ↓reduceIte, reduceCtorEq, List.nil_append, List.cons_append, List.append_nil, Nat.zero_add, Nat.add_zero, Bool.and_true, Bool.true_and, Bool.not_true, Bool.not_false, BEq.rfl, decide_true, decide_false, true_and, and_true, initF, initP, List.map_cons, List.map_nil, Option.map_some, szAll, List.length_cons, List.length_nil, finW_r, finW_n, resL, resOne, Option.bind_some, true_imp_iff, false_imp_iff, Bool.true_eq_false, Bool.false_eq_true, Int.toNat_natCast, Int.reduceToNat, Int.reduceLE, Int.reduceLT, Int.reduceAdd, Int.reduceSub, Int.reduceEq, decide_eq_true_eq, decide_eq_false_iff_not, kill, SV.mentions, ne_eq, not_false_eq_true, not_true_eq_false, List.drop_zero, List.take_succ_cons, List.take_zero, dOk, ↓br_tt, ↓br_ff, ↓br_tf, ↓br_ft, br_t, br_f, Bool.bne_false, Bool.bne_true, GV.bldT, GV.bldC, gVec_get, gVec_set, gVec_arr, gVec_fits, gVec_sz, gVec_sameT, gVec_zero, gVec_isS, gVec2_get, gVec2_arr, gVec2_fits, gVec2_sz, gVec2_sameT, gVec2_zero, gVec2_set, same_int, getT_nil, setT_nil, getD_gi, List.length_map, fits_s, fits_c, fits_ar, arr_ar, get_nil, mkS_size, getD_gN, getD_gb, mkS_at, mkS_e0, mkS_e46, mkS_e4646, mkS_e47, mkS_ext, List.length_map]
      rw [joinA, wrongA_bad (i := i) (by omega) (by simpa using h)]
      rfl
    · have e1 : ns.take (i + 1) = ns.take i ++ [ns.getD i []] := by
        rw [List.take_add_one, List.getD_eq_getElem?_getD, List.getElem?_eq_getElem (by omega)]; rfl
      have hsz : ({ data := #[47] } ++ mkS (ns.getD i []) : ByteArray) = mkS (47 :: ns.getD i []) := by
        rw [show ({ data := #[47] } : ByteArray) = mkS [47] from rfl, mkS_app]; rfl
      have hfl := flat_len (ns.take i)
      have hst := sumL_take ns i
      refine ⟨⟨by omega, by omega⟩, ?_, ?_, ?_⟩
      · have : ({ data := #[47] } : ByteArray).size = 1 := rfl
        omega
      · rw [hsz, mkS_size]; simp only [List.length_cons]; omega
      rw [hsz, mkS_app]
      subst hQ; simp only [loopQ_n]; refine ⟨i + 1, ?_, ?_, ge_of ?_ ?_ rfl rfl rfl⟩
      · refine ⟨by omega, fun j hj2 => ?_⟩
        rcases Nat.lt_succ_iff_lt_or_eq.1 hj2 with h4 | rfl
        · exact hj j h4
        · simpa using h
      · omega
      · simp only [frIn, vc_skip, vc_ret, vc_exit, vc_seq, vc_block, vc_scope, scopeQ_n, scopeQ_r, scopeQ_e, vc_rg, vc_rgq, vc_rga, vc_ite, thenQ_n, thenQ_r, thenQ_e, blockQ_n, blockQ_r, blockQ_e, kKeep_eq, loopQ_r, loopQ_e, loopQ_n, finQ_r, finQ_n, segs_nil, segs_n, segs_g, ops_nil, ops_cons, qsegs_nil, qsegs_n, qsegs_g, qops_nil, qops_cons, ot_done, ot_op, ot_or, ot_held, oh_done, oh_op, oh_or, oh_first, oh_firstg, heldC_eq, heldF_eq, heldOk, heldK, ldH, heldM_self, heldM_one, heldM_two, heldM_three, List.contains_cons, List.contains_nil, Bool.or_false, Bool.or_true, Bool.true_or, Bool.false_or, vcqOp, vcOp, isRd, RO.isGh, skip_mk, skipL, ev, evL, gvL, scL, look, updL, put_mk, put_mk0, keep_mk, keepL, rowE, rowD, bndN, binV, binC, unV, GV.getT, GV.fld, GV.sz, GV.same, GV.setT, Value.oneCell', cond_true, cond_false, Nat.reduceEqDiff, Nat.reduceAdd, Nat.reduceMul, Nat.reduceSub, Nat.reduceBEq, Nat.reduceLeDiff, ↓reduceIte, reduceCtorEq, List.nil_append, List.cons_append, List.append_nil, Nat.zero_add, Nat.add_zero, Bool.and_true, Bool.true_and, Bool.not_true, Bool.not_false, BEq.rfl, decide_true, decide_false, true_and, and_true, initF, initP, List.map_cons, List.map_nil, Option.map_some, szAll, List.length_cons, List.length_nil, finW_r, finW_n, resL, resOne, Option.bind_some, true_imp_iff, false_imp_iff, Bool.true_eq_false, Bool.false_eq_true, Int.toNat_natCast, Int.reduceToNat, Int.reduceLE, Int.reduceLT, Int.reduceAdd, Int.reduceSub, Int.reduceEq, decide_eq_true_eq, decide_eq_false_iff_not, kill, SV.mentions, ne_eq, not_false_eq_true, not_true_eq_false, List.drop_zero, List.take_succ_cons, List.take_zero, dOk, ↓br_tt, ↓br_ff, ↓br_tf, ↓br_ft, br_t, br_f, Bool.bne_false, Bool.bne_true, GV.bldT, GV.bldC]
        rw [wrap_n (by omega), e1, join_step]
        try simp
      · simp [pvIn, look]
  · subst hQ
    obtain rfl : i = ns.length := by omega
    simp (maxSteps := 2000000) only [vc_skip, vc_ret, vc_exit, vc_seq, vc_block, vc_scope, scopeQ_n, scopeQ_r, scopeQ_e, vc_rg, vc_rgq, vc_rga, vc_ite, thenQ_n, thenQ_r, thenQ_e, blockQ_n, blockQ_r, blockQ_e, kKeep_eq, loopQ_r, loopQ_e, loopQ_n, finQ_r, finQ_n, segs_nil, segs_n, segs_g, ops_nil, ops_cons, qsegs_nil, qsegs_n, qsegs_g, qops_nil, qops_cons, ot_done, ot_op, ot_or, ot_held, oh_done, oh_op, oh_or, oh_first, oh_firstg, heldC_eq, heldF_eq, heldOk, heldK, ldH, heldM_self, heldM_one, heldM_two, heldM_three, List.contains_cons, List.contains_nil, Bool.or_false, Bool.or_true, Bool.true_or, Bool.false_or, vcqOp, vcOp, isRd, RO.isGh, skip_mk, skipL, ev, evL, gvL, scL, look, updL, put_mk, put_mk0, keep_mk, keepL, rowE, rowD, bndN, binV, binC, unV, GV.getT, GV.fld, GV.sz, GV.same, GV.setT, Value.oneCell', cond_true, cond_false, Nat.reduceEqDiff, Nat.reduceAdd, Nat.reduceMul, Nat.reduceSub, Nat.reduceBEq, Nat.reduceLeDiff, ↓reduceIte, reduceCtorEq, List.nil_append, List.cons_append, List.append_nil, Nat.zero_add, Nat.add_zero, Bool.and_true, Bool.true_and, Bool.not_true, Bool.not_false, BEq.rfl, decide_true, decide_false, true_and, and_true, initF, initP, List.map_cons, List.map_nil, Option.map_some, szAll, List.length_cons, List.length_nil, finW_r, finW_n, resL, resOne, Option.bind_some, true_imp_iff, false_imp_iff, Bool.true_eq_false, Bool.false_eq_true, Int.toNat_natCast, Int.reduceToNat, Int.reduceLE, Int.reduceLT, Int.reduceAdd, Int.reduceSub, Int.reduceEq, decide_eq_true_eq, decide_eq_false_iff_not, kill, SV.mentions, ne_eq, not_false_eq_true, not_true_eq_false, List.drop_zero, List.take_succ_cons, List.take_zero, dOk, ↓br_tt, ↓br_ff, ↓br_tf, ↓br_ft, br_t, br_f, Bool.bne_false, Bool.bne_true, GV.bldT, GV.bldC, gVec_get, gVec_set, gVec_arr, gVec_fits, gVec_sz, gVec_sameT, gVec_zero, gVec_isS, gVec2_get, gVec2_arr, gVec2_fits, gVec2_sz, gVec2_sameT, gVec2_zero, gVec2_set, same_int, getT_nil, setT_nil, getD_gi, List.length_map, fits_s, fits_c, fits_ar, arr_ar, get_nil, mkS_size, getD_gN, getD_gb, mkS_at, mkS_e0, mkS_e46, mkS_e4646, mkS_e47, mkS_ext, List.length_map]
    have hw := wrongA_all hj
    rw [List.take_length]
    refine ⟨fun h1 => ?_, fun h1 => ⟨fun h2 => ?_, fun h2 => ?_⟩⟩
    · rw [if_pos (by omega)] at hw
      rw [joinA, hw]; rfl
    · rw [if_neg (by omega)] at hw
      rw [joinA, if_pos hw]
      have : ns = [] := by
        cases ns with
        | nil => rfl
        | cons x r => simp at h2
      subst this; rfl
    · rw [if_neg (by omega)] at hw
      rw [joinA, if_pos hw, join_flat ns (fun e => h2 (by subst e; rfl))]
      rfl

/-! ### Are two lists of names the same? -/
theorem names_at {ns : List (List UInt8)} {i : Nat} (hi : i < ns.length) : (ns.map gN)[i]? = some (gN (ns.getD i [])) := by
  rw [List.getElem?_map, List.getD_eq_getElem?_getD, List.getElem?_eq_getElem hi]; rfl
/-- A list of names, known as a value. -/
theorem names_shape {u : PH} {v : Value} {ns : List (List UInt8)} (h : SlR u v 1 (ns.map gN)) :
    (ns = [] ∧ ∃ a c, v = .slice a 0 c) ∨ (ns ≠ [] ∧ ∃ b o c, v = .slice (some ⟨b, o, none⟩) ns.length c ∧ ns.length ≤ c ∧ ∀ {C : Ctx} {ph : List PH} {m : PH}, KN C.u0 (m :: ph) u → ∀ i, i < ns.length → Seen C ph m b (o + i * 1) (gN (ns.getD i []))) := by
  rcases h.shape with ⟨h1, h2⟩ | ⟨h1, b, o, c, h2, h3, h4⟩
  · exact .inl ⟨by simpa using h1, h2⟩
  · refine .inr ⟨by simpa using h1, b, o, c, by simpa using h2, by simpa using h3, fun hu i hi => h4 hu i _ (names_at hi)⟩

/-- What is given out stays where it is: its value and what is known of it. -/
theorem begun_spec (w : World) (u : PH) (hu : u.le w) (hG : GlobI u) : Spec Tryz.prog f_law20_begun [] PH.no w fun rs _ => rs = [.s (.bool true)] := by
  refine spec_of k_law20_begun [] (by simp) (by simp [AV.ok]) ?_
  simp (maxSteps := 2000000) only [c_law20_begun, vc_skip, vc_ret, vc_exit, vc_seq, vc_block, vc_scope, scopeQ_n, scopeQ_r, scopeQ_e, vc_rg, vc_rgq, vc_rga, vc_ite, thenQ_n, thenQ_r, thenQ_e, blockQ_n, blockQ_r, blockQ_e, kKeep_eq, loopQ_r, loopQ_e, loopQ_n, finQ_r, finQ_n, segs_nil, segs_n, segs_g, ops_nil, ops_cons, qsegs_nil, qsegs_n, qsegs_g, qops_nil, qops_cons, ot_done, ot_op, ot_or, ot_held, oh_done, oh_op, oh_or, oh_first, oh_firstg, heldC_eq, heldF_eq, heldOk, heldK, ldH, heldM_self, heldM_one, heldM_two, heldM_three, List.contains_cons, List.contains_nil, Bool.or_false, Bool.or_true, Bool.true_or, Bool.false_or, vcqOp, vcOp, isRd, RO.isGh, skip_mk, skipL, ev, evL, gvL, scL, look, updL, put_mk, put_mk0, keep_mk, keepL, rowE, rowD, bndN, binV, binC, unV, GV.getT, GV.fld, GV.sz, GV.same, GV.setT, Value.oneCell', cond_true, cond_false, Nat.reduceEqDiff, Nat.reduceAdd, Nat.reduceMul, Nat.reduceSub, Nat.reduceBEq, Nat.reduceLeDiff, ↓reduceIte, reduceCtorEq, List.nil_append, List.cons_append, List.append_nil, Nat.zero_add, Nat.add_zero, Bool.and_true, Bool.true_and, Bool.not_true, Bool.not_false, BEq.rfl, decide_true, decide_false, true_and, and_true, initF, initP, List.map_cons, List.map_nil, Option.map_some, szAll, List.length_cons, List.length_nil, finW_r, finW_n, resL, resOne, Option.bind_some, true_imp_iff, false_imp_iff, Bool.true_eq_false, Bool.false_eq_true, Int.toNat_natCast, Int.reduceToNat, Int.reduceLE, Int.reduceLT, Int.reduceAdd, Int.reduceSub, Int.reduceEq, decide_eq_true_eq, decide_eq_false_iff_not, kill, SV.mentions, ne_eq, not_false_eq_true, not_true_eq_false, List.drop_zero, List.take_succ_cons, List.take_zero, dOk, ↓br_tt, ↓br_ff, ↓br_tf, ↓br_ft, br_t, br_f, Bool.bne_false, Bool.bne_true, GV.bldT, GV.bldC, gVec_get, gVec_set, gVec_arr, gVec_fits, gVec_sz, gVec_sameT, gVec_zero, gVec_isS, gVec2_get, gVec2_arr, gVec2_fits, gVec2_sz, gVec2_sameT, gVec2_zero, gVec2_set, same_int, getT_nil, setT_nil, getD_gi, List.length_map, fits_s, fits_c, fits_ar, arr_ar, get_nil, mkS_size, getD_gN, getD_gb, mkS_at, mkS_e0, mkS_e46, mkS_e4646, mkS_e47, mkS_ext, List.length_map]
  refine call_frz (dOk_spec rfl) rfl (Q := SplitR (splitA [47, 97, 47, 98])) (fun w' vs hv hw _ => ?_) fun rs m' hok hq => ?_
  · obtain ⟨vs, rfl, _, hv⟩ := argsV_g hv
    obtain rfl := argsV_nil hv
    exact pSplit_spec w' [47, 97, 47, 98] (by decide) u (fun b o hb => hw b o (by rw [u0_no]; exact hu b o hb)) hG
  have e1 : splitA [47, 97, 47, 98] = ([[97], [98]], 0) := by decide
  rw [e1] at hq
  obtain ⟨v, rfl, hv⟩ := hq
  simp (maxSteps := 2000000) only [retS, vc_skip, vc_ret, vc_exit, vc_seq, vc_block, vc_scope, scopeQ_n, scopeQ_r, scopeQ_e, vc_rg, vc_rgq, vc_rga, vc_ite, thenQ_n, thenQ_r, thenQ_e, blockQ_n, blockQ_r, blockQ_e, kKeep_eq, loopQ_r, loopQ_e, loopQ_n, finQ_r, finQ_n, segs_nil, segs_n, segs_g, ops_nil, ops_cons, qsegs_nil, qsegs_n, qsegs_g, qops_nil, qops_cons, ot_done, ot_op, ot_or, ot_held, oh_done, oh_op, oh_or, oh_first, oh_firstg, heldC_eq, heldF_eq, heldOk, heldK, ldH, heldM_self, heldM_one, heldM_two, heldM_three, List.contains_cons, List.contains_nil, Bool.or_false, Bool.or_true, Bool.true_or, Bool.false_or, vcqOp, vcOp, isRd, RO.isGh, skip_mk, skipL, ev, evL, gvL, scL, look, updL, put_mk, put_mk0, keep_mk, keepL, rowE, rowD, bndN, binV, binC, unV, GV.getT, GV.fld, GV.sz, GV.same, GV.setT, Value.oneCell', cond_true, cond_false, Nat.reduceEqDiff, Nat.reduceAdd, Nat.reduceMul, Nat.reduceSub, Nat.reduceBEq, Nat.reduceLeDiff, ↓reduceIte, reduceCtorEq, List.nil_append, List.cons_append, List.append_nil, Nat.zero_add, Nat.add_zero, Bool.and_true, Bool.true_and, Bool.not_true, Bool.not_false, BEq.rfl, decide_true, decide_false, true_and, and_true, initF, initP, List.map_cons, List.map_nil, Option.map_some, szAll, List.length_cons, List.length_nil, finW_r, finW_n, resL, resOne, Option.bind_some, true_imp_iff, false_imp_iff, Bool.true_eq_false, Bool.false_eq_true, Int.toNat_natCast, Int.reduceToNat, Int.reduceLE, Int.reduceLT, Int.reduceAdd, Int.reduceSub, Int.reduceEq, decide_eq_true_eq, decide_eq_false_iff_not, kill, SV.mentions, ne_eq, not_false_eq_true, not_true_eq_false, List.drop_zero, List.take_succ_cons, List.take_zero, dOk, ↓br_tt, ↓br_ff, ↓br_tf, ↓br_ft, br_t, br_f, Bool.bne_false, Bool.bne_true, GV.bldT, GV.bldC, gVec_get, gVec_set, gVec_arr, gVec_fits, gVec_sz, gVec_sameT, gVec_zero, gVec_isS, gVec2_get, gVec2_arr, gVec2_fits, gVec2_sz, gVec2_sameT, gVec2_zero, gVec2_set, same_int, getT_nil, setT_nil, getD_gi, List.length_map, fits_s, fits_c, fits_ar, arr_ar, get_nil, mkS_size, getD_gN, getD_gb, mkS_at, mkS_e0, mkS_e46, mkS_e4646, mkS_e47, mkS_ext, List.length_map]
  refine call_is _ [gN [47, 97, 47, 98], .s (.int .i64 0)] rfl rfl (fun w' vs hv' hw => ?_) ?_
  · obtain ⟨v', vs, rfl, g1, hv'⟩ := argsV_row (z := 1) (xs := [[97], [98]].map gN) rfl (by simp) hv'
    obtain rfl := argsV_nil hv'
    intro _
    have := pJoin_spec w' v' [[97], [98]] (by decide) w'.ph (fun _ _ h => h) g1
    rwa [show joinA [[97], [98]] = ([47, 97, 47, 98], 0) by decide] at this
  simp (maxSteps := 2000000) only [retS, gN, List.getElem?_cons_zero, List.getElem?_cons_succ, Int.cast_ofNat_Int, vc_skip, vc_ret, vc_exit, vc_seq, vc_block, vc_scope, scopeQ_n, scopeQ_r, scopeQ_e, vc_rg, vc_rgq, vc_rga, vc_ite, thenQ_n, thenQ_r, thenQ_e, blockQ_n, blockQ_r, blockQ_e, kKeep_eq, loopQ_r, loopQ_e, loopQ_n, finQ_r, finQ_n, segs_nil, segs_n, segs_g, ops_nil, ops_cons, qsegs_nil, qsegs_n, qsegs_g, qops_nil, qops_cons, ot_done, ot_op, ot_or, ot_held, oh_done, oh_op, oh_or, oh_first, oh_firstg, heldC_eq, heldF_eq, heldOk, heldK, ldH, heldM_self, heldM_one, heldM_two, heldM_three, List.contains_cons, List.contains_nil, Bool.or_false, Bool.or_true, Bool.true_or, Bool.false_or, vcqOp, vcOp, isRd, RO.isGh, skip_mk, skipL, ev, evL, gvL, scL, look, updL, put_mk, put_mk0, keep_mk, keepL, rowE, rowD, bndN, binV, binC, unV, GV.getT, GV.fld, GV.sz, GV.same, GV.setT, Value.oneCell', cond_true, cond_false, Nat.reduceEqDiff, Nat.reduceAdd, Nat.reduceMul, Nat.reduceSub, Nat.reduceBEq, Nat.reduceLeDiff, ↓reduceIte, reduceCtorEq, List.nil_append, List.cons_append, List.append_nil, Nat.zero_add, Nat.add_zero, Bool.and_true, Bool.true_and, Bool.not_true, Bool.not_false, BEq.rfl, decide_true, decide_false, true_and, and_true, initF, initP, List.map_cons, List.map_nil, Option.map_some, szAll, List.length_cons, List.length_nil, finW_r, finW_n, resL, resOne, Option.bind_some, true_imp_iff, false_imp_iff, Bool.true_eq_false, Bool.false_eq_true, Int.toNat_natCast, Int.reduceToNat, Int.reduceLE, Int.reduceLT, Int.reduceAdd, Int.reduceSub, Int.reduceEq, decide_eq_true_eq, decide_eq_false_iff_not, kill, SV.mentions, ne_eq, not_false_eq_true, not_true_eq_false, List.drop_zero, List.take_succ_cons, List.take_zero, dOk, ↓br_tt, ↓br_ff, ↓br_tf, ↓br_ft, br_t, br_f, Bool.bne_false, Bool.bne_true, GV.bldT, GV.bldC, gVec_get, gVec_set, gVec_arr, gVec_fits, gVec_sz, gVec_sameT, gVec_zero, gVec_isS, gVec2_get, gVec2_arr, gVec2_fits, gVec2_sz, gVec2_sameT, gVec2_zero, gVec2_set, same_int, getT_nil, setT_nil, getD_gi, List.length_map, fits_s, fits_c, fits_ar, arr_ar, get_nil, mkS_size, getD_gN, getD_gb, mkS_at, mkS_e0, mkS_e46, mkS_e4646, mkS_e47, mkS_ext, List.length_map]
  refine gh_rk 1 1 (.s (.string ⟨#[]⟩)) rfl rfl hv.toR (KN.mem (by simp)) ?_
  simp (maxSteps := 2000000) only [gN, List.getD_cons_zero, List.getD_cons_succ, Int.cast_ofNat_Int, List.length_map, mkS_eq, vc_skip, vc_ret, vc_exit, vc_seq, vc_block, vc_scope, scopeQ_n, scopeQ_r, scopeQ_e, vc_rg, vc_rgq, vc_rga, vc_ite, thenQ_n, thenQ_r, thenQ_e, blockQ_n, blockQ_r, blockQ_e, kKeep_eq, loopQ_r, loopQ_e, loopQ_n, finQ_r, finQ_n, segs_nil, segs_n, segs_g, ops_nil, ops_cons, qsegs_nil, qsegs_n, qsegs_g, qops_nil, qops_cons, ot_done, ot_op, ot_or, ot_held, oh_done, oh_op, oh_or, oh_first, oh_firstg, heldC_eq, heldF_eq, heldOk, heldK, ldH, heldM_self, heldM_one, heldM_two, heldM_three, List.contains_cons, List.contains_nil, Bool.or_false, Bool.or_true, Bool.true_or, Bool.false_or, vcqOp, vcOp, isRd, RO.isGh, skip_mk, skipL, ev, evL, gvL, scL, look, updL, put_mk, put_mk0, keep_mk, keepL, rowE, rowD, bndN, binV, binC, unV, GV.getT, GV.fld, GV.sz, GV.same, GV.setT, Value.oneCell', cond_true, cond_false, Nat.reduceEqDiff, Nat.reduceAdd, Nat.reduceMul, Nat.reduceSub, Nat.reduceBEq, Nat.reduceLeDiff, ↓reduceIte, reduceCtorEq, List.nil_append, List.cons_append, List.append_nil, Nat.zero_add, Nat.add_zero, Bool.and_true, Bool.true_and, Bool.not_true, Bool.not_false, BEq.rfl, decide_true, decide_false, true_and, and_true, initF, initP, List.map_cons, List.map_nil, Option.map_some, szAll, List.length_cons, List.length_nil, finW_r, finW_n, resL, resOne, Option.bind_some, true_imp_iff, false_imp_iff, Bool.true_eq_false, Bool.false_eq_true, Int.toNat_natCast, Int.reduceToNat, Int.reduceLE, Int.reduceLT, Int.reduceAdd, Int.reduceSub, Int.reduceEq, decide_eq_true_eq, decide_eq_false_iff_not, kill, SV.mentions, ne_eq, not_false_eq_true, not_true_eq_false, List.drop_zero, List.take_succ_cons, List.take_zero, dOk, ↓br_tt, ↓br_ff, ↓br_tf, ↓br_ft, br_t, br_f, Bool.bne_false, Bool.bne_true, GV.bldT, GV.bldC, gVec_get, gVec_set, gVec_arr, gVec_fits, gVec_sz, gVec_sameT, gVec_zero, gVec_isS, gVec2_get, gVec2_arr, gVec2_fits, gVec2_sz, gVec2_sameT, gVec2_zero, gVec2_set, same_int, getT_nil, setT_nil, getD_gi, List.length_map, fits_s, fits_c, fits_ar, arr_ar, get_nil, mkS_size, getD_gN, getD_gb, mkS_at, mkS_e0, mkS_e46, mkS_e4646, mkS_e47, mkS_ext, List.length_map]
  exact ⟨fun _ => ⟨fun _ => ⟨fun _ => fin_m PH.no rfl (fun _ _ h => h) rfl, fun h => absurd rfl h⟩, fun h => absurd rfl h⟩, fun h => absurd rfl h⟩

theorem splitA_len (p : List UInt8) : (splitA p).1.length ≤ 64 := by
  by_cases h : (splitA p).2 = 0
  · exact (wrongA_ok (join_split (p := p) (ns := (splitA p).1) (by rw [← h])).1).2
  · rw [splitA_err h]; simp
theorem splitA_names {p n : List UInt8} (hn : n ∈ (splitA p).1) : nameA n = true := by
  by_cases h : (splitA p).2 = 0
  · exact (wrongA_ok (join_split (p := p) (ns := (splitA p).1) (by rw [← h])).1).1 n hn
  · rw [splitA_err h] at hn; cases hn
theorem sumL_le : ∀ {ns : List (List UInt8)}, (∀ n ∈ ns, nameA n = true) → sumL ns ≤ 256 * ns.length
  | [], _ => by simp [sumL]
  | x :: r, h => by
    have h1 := nameA_len (h x (by simp))
    have h2 := sumL_le (ns := r) fun n hn => h n (by simp [hn])
    simp only [sumL, List.map_cons, List.sum_cons, List.length_cons] at h2 ⊢
    omega

end Go.Proofs.YtnoeabmpdjpfaaaGreatDoor.Vc.Pa

/- The way from a node up to the root, and its names: plain. -/
set_option linter.unusedVariables false
set_option linter.unusedSimpArgs false
namespace Go.Proofs.YtnoeabmpdjpfaaaGreatDoor.Vc
open Go

/-- The name of a node, byte by byte. -/
def nameL (T : PT) (n : Int) : List UInt8 := ((T.get n).map fun x => x.name.data.toList).getD []
theorem nameL_get {T : PT} {n : Int} {x : PN} (h : T.get n = some x) : nameL T n = x.name.data.toList := by rw [nameL, h]; rfl
theorem nameL_mk {T : PT} {n : Int} {x : PN} (h : T.get n = some x) : Pa.mkS (nameL T n) = x.name := by rw [nameL_get h, Pa.mkS_of]
/-- These are the nodes up to the root, the root left out. -/
def Way (T : PT) : List Int → Int → Prop
  | [], n => n = 1
  | m :: l, n => n = m ∧ topB n = false ∧ ∃ x, T.get n = some x ∧ Way T l x.parent
theorem Way.uniq {T : PT} : ∀ {l : List Int} {a b : Int}, Way T l a → Way T l b → a = b
  | [], _, _, h, h' => by rw [show _ = _ from h, show _ = _ from h']
  | _ :: _, _, _, h, h' => by rw [h.1, h'.1]
theorem Way.drop {T : PT} : ∀ {l : List Int} {n : Int} (j : Nat), Way T l n → ∃ m, Way T (l.drop j) m
  | l, n, 0, h => ⟨n, h⟩
  | [], n, j + 1, h => ⟨n, h⟩
  | _ :: l, n, j + 1, h => by
    obtain ⟨_, _, x, _, h⟩ := h
    obtain ⟨m, hm⟩ := h.drop j
    exact ⟨m, by simpa using hm⟩
theorem Way.mem {T : PT} : ∀ {l : List Int} {n m : Int}, Way T l n → m ∈ l → topB m = false ∧ ∃ x, T.get m = some x
  | [], _, _, _, hm => by simp at hm
  | a :: l, n, m, ⟨e, h1, x, h2, h3⟩, hm => by
    rcases List.mem_cons.1 hm with rfl | hm
    · subst e; exact ⟨h1, x, h2⟩
    · exact h3.mem hm
theorem way_of {T : PT} : ∀ {k f : Nat} {n : Int}, LeadsN T.view k n → k < f → belowA T f n 2 = false → ∃ l, l.length = k ∧ Way T l n
  | 0, 0, n, h, hf, _ => by omega
  | 0, f + 1, n, h, _, hb => by
    refine ⟨[], rfl, ?_⟩
    rcases topB_iff.1 (show topB n = true from h) with e | e
    · exact e
    · rw [belowA, if_pos e] at hb; cases hb
  | k + 1, 0, n, h, hf, _ => by omega
  | k + 1, f + 1, n, h, hf, hb => by
    obtain ⟨ht, a, h1, h2⟩ := h
    obtain ⟨x, hx, rfl⟩ := get_of_view h1
    unfold belowA at hb
    by_cases hn : n = 2
    · rw [if_pos hn] at hb; cases hb
    · rw [if_neg hn, hx] at hb
      simp only at hb
      rw [ht] at hb
      simp only [Bool.false_eq_true, if_false] at hb
      obtain ⟨l, e, hl⟩ := way_of (k := k) (f := f) (n := x.parent) h2 (by omega) hb
      exact ⟨n :: l, by simp [e], rfl, ht, x, hx, hl⟩
theorem way_at {T : PT} {k : Nat} {n : Int} (hok : T.ok k) (hg : VGood T.view) (hn : T.has n = true) (hb : T.below n 2 = false) : ∃ l, l.length ≤ k + 2 ∧ Way T l n := by
  obtain ⟨j, hj⟩ := hg.led n (has_iff.1 hn)
  have hf := hj.few
  obtain ⟨l, e, hl⟩ := way_of hj (by omega) hb
  exact ⟨l, by have := hok.many; omega, hl⟩
theorem Way.name {T : PT} (hg : VGood T.view) {l : List Int} {n m : Int} (h : Way T l n) (hm : m ∈ l) : Pa.nameA (nameL T m) = true := by
  obtain ⟨h1, x, h2⟩ := h.mem hm
  have : nameB x.name = true := hg.name m _ (PT.view_get h2) h1
  rw [nameL_get h2]
  exact this
/-- The names from the root down. -/
def namesW (T : PT) (l : List Int) : List (List UInt8) := (l.map (nameL T)).reverse
theorem namesW_cons (T : PT) (m : Int) (l : List Int) : namesW T (m :: l) = namesW T l ++ [nameL T m] := by simp [namesW]
theorem namesW_len (T : PT) (l : List Int) : (namesW T l).length = l.length := by simp [namesW]
theorem Way.wrong {T : PT} (hg : VGood T.view) {l : List Int} {n : Int} (h : Way T l n) (hl : l.length ≤ 64) : Pa.wrongA (namesW T l) = 0 :=
  Pa.wrongA_of (fun x hx => by
    obtain ⟨m, hm, rfl⟩ := List.mem_map.1 (List.mem_reverse.1 hx)
    exact h.name hg hm) (by rw [namesW_len]; exact hl)
/-- None of its parent's children with its name is less. -/
def Alone (T : PT) (m : Int) : Prop := ∀ x y, T.get m = some x → T.get x.parent = some y → ∀ c ∈ y.kids, T.nameIs c x.name → m ≤ c
theorem look_alone {T : PT} (hkd : T.kidsOk) (hg : VGood T.view) {m best : Int} {x y : PN} (hx : T.get m = some x) (ht : topB m = false) (hy : T.get x.parent = some y) (h : LookP T x.name y.kids best) : best ≠ 0 ∧ (best = m ↔ Alone T m) := by
  have hm : m ∈ y.kids := (hkd.mem _ y m hy).2 ⟨ht, x, hx, rfl⟩
  have hn : T.nameIs m x.name := ⟨x, hx, rfl⟩
  rcases h with ⟨_, h2⟩ | ⟨h1, h2, h3⟩
  · exact absurd hn (h2 m hm)
  · have hb := h3 m hm hn
    refine ⟨fun e => ?_, fun e x' y' hx' hy' c hc hcn => ?_, fun ha => ?_⟩
    · obtain ⟨_, z, hz, _⟩ := (hkd.mem _ y best hy).1 h1
      have := hg.pos best _ (PT.view_get hz)
      omega
    · rw [hx] at hx'; cases hx'
      rw [hy] at hy'; cases hy'
      rw [← e]; exact h3 c hc hcn
    · have := ha x y hx hy best h1 h2
      omega
theorem kids_get {T : PT} (hkd : T.kidsOk) (hg : VGood T.view) {n : Int} {x : PN} (hx : T.get n = some x) : ∀ c ∈ x.kids, c ≠ 0 ∧ ∃ y, T.get c = some y := fun c hc => by
  obtain ⟨_, y, hy, _⟩ := (hkd.mem _ x c hx).1 hc
  have := hg.pos c _ (PT.view_get hy)
  exact ⟨by omega, y, hy⟩
/-- A node's parent is there. -/
theorem parent_get {T : PT} (hg : VGood T.view) {m : Int} {x : PN} (hx : T.get m = some x) (ht : topB m = false) : ∃ y, T.get x.parent = some y := by
  obtain ⟨k, hk⟩ := hg.led m (by rw [PT.view_get hx]; simp)
  cases k with
  | zero => rw [show topB m = true from hk] at ht; cases ht
  | succ k =>
    obtain ⟨_, a, h1, h2⟩ := hk
    rw [PT.view_get hx] at h1
    cases h1
    cases k with
    | zero =>
      rcases topB_iff.1 (show topB x.parent = true from h2) with e | e
      · obtain ⟨a, ha⟩ := Option.ne_none_iff_exists'.1 hg.one
        obtain ⟨y, hy, _⟩ := get_of_view ha
        rw [e]; exact ⟨y, hy⟩
      · obtain ⟨a, ha⟩ := Option.ne_none_iff_exists'.1 hg.two
        obtain ⟨y, hy, _⟩ := get_of_view ha
        rw [e]; exact ⟨y, hy⟩
    | succ k =>
      obtain ⟨_, b, h3, _⟩ := h2
      obtain ⟨y, hy, _⟩ := get_of_view h3
      exact ⟨y, hy⟩
/-- The told rows are the nodes. -/
theorem told_mem {T : PT} {r : TN} (h : r ∈ nodesTold T) : ∃ x, T.get r.node = some x ∧ r.parent = x.parent ∧ r.name = x.name := by
  obtain ⟨n, _, x, hx, e⟩ := toldL_node h
  subst e
  exact ⟨x, hx, rfl, rfl⟩
end Go.Proofs.YtnoeabmpdjpfaaaGreatDoor.Vc

/- The code of some functions of the program, its types resolved: printed by a program of this claim. -/
set_option linter.unusedVariables false
set_option maxRecDepth 100000
namespace Go.Proofs.YtnoeabmpdjpfaaaGreatDoor.Vc
open Go Go.Proofs

abbrev f_tree_Tree_Node : Nat := 12
def c_tree_Tree_Node : Cd :=
 (.seq (.rg [⟨none, [(some 4, .new 32 (.c (.s (.int .i64 0)) (.c (.s (.int .i64 0)) (.c (.s (.string ⟨#[]⟩)) (.c (.s (.slice none 0 0)) .u))))), (some 5, .mv (.c (.bool false)))]⟩] [0, 1, 4])
 (.seq (.seq (.rg [⟨none, [(some 6, .mv (.t 0)), (some 7, .call 30 [(.t 6)]), (some 8, .mv (.t 7))]⟩, ⟨some (8, false), [(some 9, .mv (.t 0)), (some 10, .nilc (.t 9)), (some 11, .fldA (.t 10) 0 0), (some 12, .ld (.t 11) 1 false), (some 13, .mv (.t 1)), (some 14, .mlk (some .i64) (.t 12) (.t 13) (.pointer none) false), (some 15, .eqA false 86 (.t 14) (.c (.pointer none)))]⟩, ⟨none, [(some 16, .pick (.t 8) (.c (.bool true)) (.t 15))]⟩] [0, 1, 4, 16])
 (.ite (.t 16)
 (.seq (.rg [⟨none, [(some 17, .bld (.c (.s (.int .i64 0)) (.c (.s (.int .i64 0)) (.c (.s (.string ⟨#[]⟩)) (.c (.s (.slice none 0 0)) .u)))) []), (none, .st (.t 4) (.t 17) 4), (some 5, .mv (.c (.bool false)))]⟩] [4, 5])
 .ret)
 .skip))
 (.seq (.rg [⟨none, [(some 18, .mv (.t 0)), (some 19, .mv (.t 1)), (some 20, .call 33 [(.t 18), (.t 19)]), (none, .st (.t 4) (.t 20) 4), (some 5, .mv (.c (.bool true)))]⟩] [4, 5])
 .ret)))
theorem k_tree_Tree_Node : Ok Tryz.prog 12 c_tree_Tree_Node 21 [] [.cell 4 4 true, .tmp 5] := Ok.mk' Tryz.func12 (by kernel_rfl) (by kernel_rfl) (by kernel_rfl)

abbrev f_tree_Tree_Below : Nat := 10
def c_tree_Tree_Below : Cd :=
 (.seq (.rg [⟨none, [(some 6, .mv (.c (.bool false)))]⟩] [0, 1, 2])
 (.seq (.rg [⟨none, [(some 7, .mv (.t 0)), (some 8, .call 30 [(.t 7)]), (some 9, .un .not (.t 8)), (some 10, .mv (.t 9))]⟩, ⟨some (10, true), [(some 11, .mv (.t 0)), (some 12, .nilc (.t 11)), (some 13, .fldA (.t 12) 0 0), (some 14, .ld (.t 13) 1 false), (some 15, .mv (.t 1)), (some 16, .mlk (some .i64) (.t 14) (.t 15) (.pointer none) false), (some 17, .eqA true 86 (.t 16) (.c (.pointer none)))]⟩, ⟨none, [(some 18, .pick (.t 10) (.t 17) (.c (.bool false))), (some 19, .mv (.t 18))]⟩, ⟨some (19, true), [(some 20, .mv (.t 0)), (some 21, .nilc (.t 20)), (some 22, .fldA (.t 21) 0 0), (some 23, .ld (.t 22) 1 false), (some 24, .mv (.t 2)), (some 25, .mlk (some .i64) (.t 23) (.t 24) (.pointer none) false), (some 26, .eqA true 86 (.t 25) (.c (.pointer none)))]⟩, ⟨none, [(some 27, .pick (.t 19) (.t 26) (.c (.bool false))), (some 28, .mv (.t 27))]⟩, ⟨some (28, true), [(some 29, .mv (.t 0)), (some 30, .mv (.t 1)), (some 31, .mv (.t 2)), (some 32, .call 37 [(.t 29), (.t 30), (.t 31)])]⟩, ⟨none, [(some 33, .pick (.t 28) (.t 32) (.c (.bool false))), (some 6, .mv (.t 33))]⟩] [6])
 .ret))
theorem k_tree_Tree_Below : Ok Tryz.prog 10 c_tree_Tree_Below 34 [] [.tmp 6] := Ok.mk' Tryz.func10 (by kernel_rfl) (by kernel_rfl) (by kernel_rfl)

end Go.Proofs.YtnoeabmpdjpfaaaGreatDoor.Vc

/- A tree asked for a node, and whether one is below another. -/
set_option linter.unusedVariables false
set_option linter.unusedSimpArgs false
set_option maxRecDepth 100000
namespace Go.Proofs.YtnoeabmpdjpfaaaGreatDoor.Vc
open Go Go.Proofs

section
variable {w : World} {u : PH} {L : Lay} {T : PT}
theorem Node_spec (hu : u.le w) (hT : TM u L T) (n : Int) (hsm : ∀ x, T.get n = some x → x.small) :
    Spec Tryz.prog f_tree_Tree_Node [ptr (L .t), .int .i64 n] PH.no w fun rs m' => (T.get n = none → rs = [gTreeNode zTreeNode, .s (.bool false)]) ∧ ∀ x, T.get n = some x → ∃ v, rs = [gTreeNode ⟨n, x.parent, x.name, v⟩, .s (.bool true)] ∧ SlO m' v 55 2 ((attrsOf x).map gAttr) := by
  refine spec_of k_tree_Tree_Node [.g (.s (ptr (L .t))), .g (.s (.int .i64 n))] (by simp) (by simp [AV.ok, GV.ok, Value.oneCell', ptr]) ?_
  have hk : ∀ {l : List PH}, KN (⟨Tryz.prog, 21, w, PH.no⟩ : Ctx).u0 l u := kn_u hu
  simp (maxSteps := 2000000) only [c_tree_Tree_Node, vc_seq, vc_rg, thenQ_n, kKeep_eq, segs_nil, segs_n, ops_nil, ops_cons, vcOp, ev, look, updL, put_mk, keep_mk, keepL, Value.oneCell', cond_true, Nat.reduceEqDiff, ↓reduceIte, reduceCtorEq, Nat.zero_add, Bool.true_and, true_and, initF, initP, gTreeNode_zero, ptr]
  refine call_is _ [.s (.bool false)] rfl rfl (fun w' vs hv hw => ?_) ?_
  · obtain ⟨vs, rfl, _, hv⟩ := argsV_g hv
    obtain rfl := argsV_nil hv
    intro _
    exact none_spec (fun b o h => hw b o (by rw [u0_no]; exact hu b o h)) hT
  simp (maxSteps := 2000000) only [retS, segs_g, ops_nil, ops_cons, vcOp, ev, look, put_mk, ↓reduceIte, reduceCtorEq, Nat.add_zero, ↓br_ff]
  refine ld_of _ (hT.s_map hk) rfl ?_
  simp (maxSteps := 2000000) only [ops_cons, vcOp, ev, look, put_mk, Nat.reduceEqDiff, ↓reduceIte, reduceCtorEq]
  refine hT.lk hk n ?_
  cases hx : T.get n with
  | none =>
    simp (maxSteps := 2000000) only [ops_cons, vcOp, ev, look, put_mk, Value.oneCell', cond_true, ↓reduceIte, reduceCtorEq, true_imp_iff, false_imp_iff, nptr_none]
    refine eq_of eqNode0 ?_
    simp (maxSteps := 2000000) only [vc_ret, vc_seq, vc_rg, vc_ite, thenQ_n, thenQ_r, kKeep_eq, finQ_r, segs_nil, segs_n, ops_nil, ops_cons, vcOp, ev, evL, gvL, look, updL, put_mk, put_mk0, keep_mk, keepL, Value.oneCell', cond_true, Nat.reduceEqDiff, ↓reduceIte, reduceCtorEq, Bool.and_true, Bool.true_and, true_and, and_true, List.map_nil, ↓br_tt, ↓br_ft, Bool.bne_false, GV.bldT, GV.bldC, getT_nil, setT_nil, gTreeNode_sz, gTreeNode_same]
    refine fin_g (rs := [gTreeNode zTreeNode, .s (.bool false)]) rfl ⟨rfl, fun x => trivial⟩
  | some x =>
    simp (maxSteps := 2000000) only [ops_cons, vcOp, ev, look, put_mk, Value.oneCell', cond_true, ↓reduceIte, reduceCtorEq, Bool.true_and, true_and, false_imp_iff, nptr_some]
    refine eq_of (eqNode _) ?_
    simp (maxSteps := 2000000) only [vc_skip, vc_seq, vc_rg, vc_ite, thenQ_n, kKeep_eq, segs_nil, segs_n, ops_nil, ops_cons, vcOp, ev, look, put_mk, keep_mk, keepL, Value.oneCell', cond_true, Nat.reduceEqDiff, ↓reduceIte, reduceCtorEq, ↓br_ft, Bool.bne_false]
    refine call_ownm rfl rfl (Q := fun rs m' => ∃ v, rs = [gTreeNode ⟨n, x.parent, x.name, v⟩] ∧ SlO m' v 55 2 ((attrsOf x).map gAttr)) (fun w' vs hv hw _ _ => ?_) fun rs m1 _ hq _ => ?_
    · obtain ⟨vs, rfl, _, hv⟩ := argsV_g hv
      obtain ⟨vs, rfl, _, hv⟩ := argsV_g hv
      obtain rfl := argsV_nil hv
      exact told_spec w' u (fun b o h => hw b o (by rw [u0_no]; exact hu b o h)) L T hT n x hx (hsm x hx)
    obtain ⟨v, rfl, hv⟩ := hq
    simp (maxSteps := 2000000) only [retS, uni_no_r, vc_ret, thenQ_n, kKeep_eq, finQ_r, segs_nil, ops_nil, ops_cons, vcOp, ev, look, updL, put_mk, put_mk0, keep_mk, keepL, Value.oneCell', cond_true, Nat.reduceEqDiff, ↓reduceIte, reduceCtorEq, Bool.and_true, Bool.true_and, true_and, and_true, getT_nil, setT_nil, gTreeNode_sz, gTreeNode_same]
    refine fin_m (rs := [gTreeNode ⟨n, x.parent, x.name, v⟩, .s (.bool true)]) _ rfl (fun _ _ h => h) fun y hy => ?_
    cases hy
    exact ⟨v, rfl, hv⟩
theorem BelowX_spec (hu : u.le w) (hT : TM u L T) (n a : Int) (hl : T.nodes.length < 9223372036854775800) : Spec Tryz.prog f_tree_Tree_Below [ptr (L .t), .int .i64 n, .int .i64 a] PH.no w fun rs _ => rs = [.s (.bool (T.has n && T.has a && T.below n a))] := by
  refine spec_val k_tree_Tree_Below (Qf := fun rs => rs = [.s (.bool (T.has n && T.has a && T.below n a))]) [.g (.s (ptr (L .t))), .g (.s (.int .i64 n)), .g (.s (.int .i64 a))] (by simp) (by simp [AV.ok, GV.ok, Value.oneCell', ptr]) ?_
  have hk : ∀ {l : List PH}, KN (⟨Tryz.prog, 34, w, PH.no⟩ : Ctx).u0 l u := kn_u hu
  simp (maxSteps := 2000000) only [c_tree_Tree_Below, vc_seq, vc_rg, thenQ_n, kKeep_eq, segs_nil, segs_n, ops_nil, ops_cons, vcOp, ev, look, put_mk, keep_mk, keepL, Value.oneCell', cond_true, Nat.reduceEqDiff, Nat.reduceAdd, ↓reduceIte, reduceCtorEq, Nat.zero_add, initF, initP, Int.reduceAdd, ptr]
  refine call_is _ [.s (.bool false)] rfl rfl (fun w' vs hv hw => ?_) ?_
  · obtain ⟨vs, rfl, _, hv⟩ := argsV_g hv
    obtain rfl := argsV_nil hv
    intro _
    exact none_spec (fun b o h => hw b o (by rw [u0_no]; exact hu b o h)) hT
  simp (maxSteps := 2000000) only [retS, segs_g, ops_nil, ops_cons, vcOp, ev, look, put_mk, unV, ↓reduceIte, reduceCtorEq, Nat.add_zero, Bool.not_false, ↓br_tt]
  refine ld_of _ (hT.s_map hk) rfl ?_
  simp (maxSteps := 2000000) only [ops_cons, vcOp, ev, look, put_mk, Nat.reduceEqDiff, ↓reduceIte, reduceCtorEq]
  refine hT.lk hk n ?_
  cases hx : T.get n with
  | none =>
    simp (maxSteps := 2000000) only [ops_cons, vcOp, ev, look, put_mk, Value.oneCell', cond_true, ↓reduceIte, nptr_none]
    refine eq_of eqNode0 ?_
    simp (maxSteps := 2000000) only [vc_ret, thenQ_n, kKeep_eq, segs_nil, segs_n, segs_g, ops_nil, ops_cons, vcOp, RO.isGh, skip_mk, skipL, ev, look, put_mk, keep_mk, keepL, Value.oneCell', cond_true, cond_false, Nat.reduceEqDiff, ↓reduceIte, Bool.not_true, finW_r, resL, resOne, ↓br_tt, ↓br_ft, Bool.bne_true]
    rw [show T.has n = false by rw [PT.has, hx]; rfl]; rfl
  | some x =>
    simp (maxSteps := 2000000) only [ops_cons, vcOp, ev, look, put_mk, Value.oneCell', cond_true, ↓reduceIte, nptr_some]
    refine eq_of (eqNode _) ?_
    simp (maxSteps := 2000000) only [segs_n, segs_g, ops_nil, ops_cons, vcOp, ev, look, put_mk, Value.oneCell', cond_true, Nat.reduceEqDiff, ↓reduceIte, reduceCtorEq, Nat.add_zero, Bool.not_false, ↓br_tt, Bool.bne_true]
    refine ld_of _ (hT.s_map hk) rfl ?_
    simp (maxSteps := 2000000) only [ops_cons, vcOp, ev, look, put_mk, Nat.reduceEqDiff, ↓reduceIte, reduceCtorEq]
    refine hT.lk hk a ?_
    cases hy : T.get a with
    | none =>
      simp (maxSteps := 2000000) only [ops_cons, vcOp, ev, look, put_mk, Value.oneCell', cond_true, ↓reduceIte, nptr_none]
      refine eq_of eqNode0 ?_
      simp (maxSteps := 2000000) only [vc_ret, thenQ_n, kKeep_eq, segs_nil, segs_n, segs_g, ops_nil, ops_cons, vcOp, RO.isGh, skip_mk, skipL, ev, look, put_mk, keep_mk, keepL, Value.oneCell', cond_true, cond_false, Nat.reduceEqDiff, ↓reduceIte, Bool.not_true, finW_r, resL, resOne, ↓br_tt, ↓br_ft, Bool.bne_true]
      rw [show T.has a = false by rw [PT.has, hy]; rfl, Bool.and_false]; rfl
    | some y =>
      simp (maxSteps := 2000000) only [ops_cons, vcOp, ev, look, put_mk, Value.oneCell', cond_true, ↓reduceIte, nptr_some]
      refine eq_of (eqNode _) ?_
      simp (maxSteps := 2000000) only [segs_n, segs_g, ops_nil, ops_cons, vcOp, ev, look, put_mk, Value.oneCell', cond_true, Nat.reduceEqDiff, ↓reduceIte, reduceCtorEq, Bool.not_false, ↓br_tt, Bool.bne_true]
      refine call_is _ [.s (.bool (T.below n a))] rfl rfl (fun w' vs hv hw => ?_) ?_
      · obtain ⟨vs, rfl, _, hv⟩ := argsV_g hv
        obtain ⟨vs, rfl, _, hv⟩ := argsV_g hv
        obtain ⟨vs, rfl, _, hv⟩ := argsV_g hv
        obtain rfl := argsV_nil hv
        intro _
        exact below_spec (fun b o h => hw b o (by rw [u0_no]; exact hu b o h)) hT n a hl
      simp (maxSteps := 2000000) only [retS, vc_ret, thenQ_n, kKeep_eq, segs_nil, segs_n, ops_nil, ops_cons, vcOp, ev, look, put_mk, keep_mk, keepL, Value.oneCell', cond_true, Nat.reduceEqDiff, ↓reduceIte, finW_r, resL, resOne, ↓br_tt]
      rw [show T.has a = true by rw [PT.has, hy]; rfl, show T.has n = true by rw [PT.has, hx]; rfl]; rfl
end
end Go.Proofs.YtnoeabmpdjpfaaaGreatDoor.Vc

/- The code of some functions of the program, its types resolved: printed by a program of this claim. -/
set_option linter.unusedVariables false
set_option maxRecDepth 100000
namespace Go.Proofs.YtnoeabmpdjpfaaaGreatDoor.Vc
open Go Go.Proofs

abbrev f_path_Of : Nat := 9
def c_path_Of_L0 : Cd :=
 (.seq (.seq (.rg [⟨none, [(some 25, .mv (.t 1)), (some 26, .bin .neq (.t 25) (.c (.int .i64 1)))]⟩] [0, 1, 8, 26])
 (.ite (.t 26)
 .skip
 (.exit 0)))
 (.block 1 (.seq (.rg [⟨none, [(some 28, .mv (.t 0)), (some 29, .mv (.t 1)), (some 30, .call 12 [(.t 28), (.t 29)]), (some 27, .mv (.t 30)), (some 31, .ext (.t 27) 0), (some 32, .ext (.t 27) 1), (some 9, .new 32 (.c (.s (.int .i64 0)) (.c (.s (.int .i64 0)) (.c (.s (.string ⟨#[]⟩)) (.c (.s (.slice none 0 0)) .u))))), (none, .st (.t 9) (.t 31) 4), (some 10, .mv (.t 32))]⟩] [0, 8, 9])
 (.seq (.rg [⟨none, [(some 33, .fldA (.t 9) 2 2), (some 34, .ld (.t 33) 1 false), (some 35, .bldS 9 1 (.s (.string ⟨#[]⟩)) [(.t 34)]), (some 36, .mv (.t 8)), (none, .gh), (some 37, .app 9 1 16 (.s (.string ⟨#[]⟩)) (.t 35) (.t 36)), (none, .gh), (some 8, .mv (.t 37))]⟩] [0, 8, 9])
 (.seq (.rg [⟨none, [(some 38, .fldA (.t 9) 1 1), (some 39, .ld (.t 38) 1 false), (some 1, .mv (.t 39))]⟩] [0, 1, 8])
 (.seq (.rg [⟨none, [(some 40, .mv (.t 8)), (some 41, .len (.t 40)), (some 42, .bin .gtr (.t 41) (.c (.int .i64 64)))]⟩] [0, 1, 8, 42])
 (.ite (.t 42)
 (.seq (.rg [⟨none, [(some 4, .mv (.c (.string ⟨#[]⟩))), (some 5, .mv (.c (.int .i64 3)))]⟩] [4, 5])
 .ret)
 .skip)))))))
def c_path_Of : Cd :=
 (.seq (.rg [⟨none, [(some 4, .mv (.c (.string ⟨#[]⟩))), (some 5, .mv (.c (.int .i64 0)))]⟩] [0, 1])
 (.seq (.seq (.rg [⟨none, [(some 11, .mv (.t 0)), (some 12, .call 35 [(.t 11)]), (some 13, .bin .eql (.t 12) (.c (.int .i64 0)))]⟩] [0, 1, 13])
 (.ite (.t 13)
 (.seq (.rg [⟨none, [(some 4, .mv (.c (.string ⟨#[]⟩))), (some 5, .mv (.c (.int .i64 2)))]⟩] [4, 5])
 .ret)
 .skip))
 (.seq (.seq (.rg [⟨none, [(some 15, .mv (.t 0)), (some 16, .mv (.t 1)), (some 17, .call 12 [(.t 15), (.t 16)]), (some 14, .mv (.t 17)), (some 18, .ext (.t 14) 0), (some 19, .ext (.t 14) 1), (some 6, .new 32 (.c (.s (.int .i64 0)) (.c (.s (.int .i64 0)) (.c (.s (.string ⟨#[]⟩)) (.c (.s (.slice none 0 0)) .u))))), (none, .st (.t 6) (.t 18) 4), (some 7, .mv (.t 19))]⟩] [0, 1, 7])
 (.seq (.rg [⟨none, [(some 20, .mv (.t 7)), (some 21, .un .not (.t 20))]⟩] [0, 1, 21])
 (.ite (.t 21)
 (.seq (.rg [⟨none, [(some 4, .mv (.c (.string ⟨#[]⟩))), (some 5, .mv (.c (.int .i64 4)))]⟩] [4, 5])
 .ret)
 .skip)))
 (.seq (.seq (.rg [⟨none, [(some 22, .mv (.t 0)), (some 23, .mv (.t 1)), (some 24, .call 10 [(.t 22), (.t 23), (.c (.int .i64 2))])]⟩] [0, 1, 24])
 (.ite (.t 24)
 (.seq (.rg [⟨none, [(some 4, .mv (.c (.string ⟨#[]⟩))), (some 5, .mv (.c (.int .i64 201)))]⟩] [4, 5])
 .ret)
 .skip))
 (.seq (.rg [⟨none, [(some 8, .mv (.c (.slice none 0 0)))]⟩] [0, 1, 8])
 (.seq (.block 0 (.loop c_path_Of_L0))
 (.seq (.rg [⟨none, [(some 43, .mv (.t 8)), (some 44, .call 36 [(.t 43), (.c (.string ⟨#[47]⟩))]), (some 45, .bin .add (.c (.string ⟨#[47]⟩)) (.t 44)), (some 4, .mv (.t 45)), (some 5, .mv (.c (.int .i64 0)))]⟩] [4, 5])
 .ret)))))))
theorem k_path_Of : Ok Tryz.prog 9 c_path_Of 46 [] [.tmp 4, .tmp 5] := Ok.mk' Tryz.func9 (by kernel_rfl) (by kernel_rfl) (by kernel_rfl)

abbrev f_path_Resolve : Nat := 11
def c_path_Resolve_L0 : Cd :=
 (.seq (.rg [⟨none, [(some 27, .bin .lss (.t 26) (.t 25))]⟩] [0, 8, 24, 25, 26, 27])
 (.seq (.ite (.t 27)
 .skip
 (.exit 0))
 (.seq (.block 1 (.seq (.rg [⟨none, [(some 28, .idxS (.t 24) (.t 26) 1), (some 29, .ld (.t 28) 1 false), (some 10, .mv (.t 29))]⟩] [0, 8, 10, 24, 25, 26])
 (.seq (.rg [⟨none, [(some 31, .mv (.t 0)), (some 32, .mv (.t 8)), (some 33, .mv (.t 10)), (some 34, .call 13 [(.t 31), (.t 32), (.t 33)]), (some 30, .mv (.t 34)), (some 35, .ext (.t 30) 0), (some 36, .ext (.t 30) 1), (some 11, .mv (.t 35)), (some 12, .mv (.t 36))]⟩] [0, 11, 12, 24, 25, 26])
 (.seq (.seq (.rg [⟨none, [(some 37, .mv (.t 12)), (some 38, .un .not (.t 37))]⟩] [0, 11, 24, 25, 26, 38])
 (.ite (.t 38)
 (.seq (.rg [⟨none, [(some 4, .mv (.c (.int .i64 0))), (some 5, .mv (.c (.int .i64 4)))]⟩] [4, 5])
 .ret)
 .skip))
 (.rg [⟨none, [(some 39, .mv (.t 11)), (some 8, .mv (.t 39))]⟩] [0, 8, 24, 25, 26])))))
 (.rg [⟨none, [(some 40, .bin .add (.t 26) (.c (.int .i64 1))), (some 26, .mv (.t 40))]⟩] [0, 8, 24, 25, 26]))))
def c_path_Resolve : Cd :=
 (.seq (.rg [⟨none, [(some 4, .mv (.c (.int .i64 0))), (some 5, .mv (.c (.int .i64 0)))]⟩] [0, 1])
 (.seq (.seq (.rg [⟨none, [(some 13, .mv (.t 0)), (some 14, .call 35 [(.t 13)]), (some 15, .bin .eql (.t 14) (.c (.int .i64 0)))]⟩] [0, 1, 15])
 (.ite (.t 15)
 (.seq (.rg [⟨none, [(some 4, .mv (.c (.int .i64 0))), (some 5, .mv (.c (.int .i64 2)))]⟩] [4, 5])
 .ret)
 .skip))
 (.seq (.rg [⟨none, [(some 17, .mv (.t 1)), (some 18, .call 14 [(.t 17)]), (some 16, .mv (.t 18)), (some 19, .ext (.t 16) 0), (some 20, .ext (.t 16) 1), (some 6, .mv (.t 19)), (some 7, .mv (.t 20))]⟩] [0, 6, 7])
 (.seq (.seq (.rg [⟨none, [(some 21, .mv (.t 7)), (some 22, .bin .neq (.t 21) (.c (.int .i64 0)))]⟩] [0, 6, 7, 22])
 (.ite (.t 22)
 (.seq (.rg [⟨none, [(some 23, .mv (.t 7)), (some 4, .mv (.c (.int .i64 0))), (some 5, .mv (.t 23))]⟩] [4, 5])
 .ret)
 .skip))
 (.seq (.rg [⟨none, [(some 8, .mv (.c (.int .i64 1)))]⟩] [0, 6, 8])
 (.seq (.seq (.rg [⟨none, [(some 24, .mv (.t 6)), (none, .gh), (some 25, .len (.t 24)), (some 26, .mv (.c (.int .i64 0)))]⟩] [0, 8, 24, 25, 26])
 (.block 0 (.loop c_path_Resolve_L0)))
 (.seq (.rg [⟨none, [(some 41, .mv (.t 8)), (some 4, .mv (.t 41)), (some 5, .mv (.c (.int .i64 0)))]⟩] [4, 5])
 .ret)))))))
theorem k_path_Resolve : Ok Tryz.prog 11 c_path_Resolve 42 [] [.tmp 4, .tmp 5] := Ok.mk' Tryz.func11 (by kernel_rfl) (by kernel_rfl) (by kernel_rfl)

abbrev f_law20_PathFinds : Nat := 3
def c_law20_PathFinds_L0 : Cd :=
 (.seq (.seq (.rg [⟨none, [(some 60, .mv (.t 12)), (some 61, .bin .neq (.t 60) (.c (.int .i64 1)))]⟩] [3, 6, 9, 10, 11, 12, 29, 30, 31, 61])
 (.ite (.t 61)
 .skip
 (.exit 2)))
 (.block 3 (.seq (.rg [⟨none, [(some 63, .mv (.t 3)), (some 64, .mv (.t 12)), (some 65, .call 12 [(.t 63), (.t 64)]), (some 62, .mv (.t 65)), (some 66, .ext (.t 62) 0), (some 67, .ext (.t 62) 1), (some 13, .new 32 (.c (.s (.int .i64 0)) (.c (.s (.int .i64 0)) (.c (.s (.string ⟨#[]⟩)) (.c (.s (.slice none 0 0)) .u))))), (none, .st (.t 13) (.t 66) 4), (some 14, .mv (.t 67))]⟩] [3, 6, 9, 10, 11, 12, 13, 14, 29, 30, 31])
 (.seq (.seq (.rg [⟨none, [(some 68, .mv (.t 14)), (some 69, .un .not (.t 68))]⟩] [3, 6, 9, 10, 11, 12, 13, 29, 30, 31, 69])
 (.ite (.t 69)
 (.seq (.rg [⟨none, [(some 2, .mv (.c (.bool false)))]⟩] [2])
 .ret)
 .skip))
 (.seq (.rg [⟨none, [(some 71, .mv (.t 3)), (some 72, .fldA (.t 13) 1 1), (some 73, .ld (.t 72) 1 false), (some 74, .fldA (.t 13) 2 2), (some 75, .ld (.t 74) 1 false), (some 76, .call 13 [(.t 71), (.t 73), (.t 75)]), (some 70, .mv (.t 76)), (some 77, .ext (.t 70) 0), (some 78, .ext (.t 70) 1), (some 15, .mv (.t 77)), (some 16, .mv (.t 78))]⟩] [3, 6, 9, 10, 11, 12, 13, 15, 29, 30, 31])
 (.seq (.rg [⟨none, [(some 79, .mv (.t 11)), (some 80, .mv (.t 79))]⟩, ⟨some (80, true), [(some 81, .mv (.t 15)), (some 82, .mv (.t 12)), (some 83, .bin .eql (.t 81) (.t 82))]⟩, ⟨none, [(some 84, .pick (.t 80) (.t 83) (.c (.bool false))), (some 11, .mv (.t 84))]⟩] [3, 6, 9, 10, 11, 13, 29, 30, 31])
 (.rg [⟨none, [(some 85, .fldA (.t 13) 1 1), (some 86, .ld (.t 85) 1 false), (some 12, .mv (.t 86))]⟩] [3, 6, 9, 10, 11, 12, 29, 30, 31])))))))
def c_law20_PathFinds_L1 : Cd :=
 (.seq (.rg [⟨none, [(some 32, .bin .lss (.t 31) (.t 30))]⟩] [3, 29, 30, 31, 32])
 (.seq (.ite (.t 32)
 .skip
 (.exit 0))
 (.seq (.block 1 (.seq (.rg [⟨none, [(some 33, .idxS (.t 29) (.t 31) 4), (some 34, .ld (.t 33) 4 true), (some 6, .new 32 (.c (.s (.int .i64 0)) (.c (.s (.int .i64 0)) (.c (.s (.string ⟨#[]⟩)) (.c (.s (.slice none 0 0)) .u))))), (none, .st (.t 6) (.t 34) 4)]⟩] [3, 6, 29, 30, 31])
 (.seq (.rg [⟨none, [(some 36, .mv (.t 3)), (some 37, .fldA (.t 6) 0 0), (some 38, .ld (.t 37) 1 false), (some 39, .call 9 [(.t 36), (.t 38)]), (some 35, .mv (.t 39)), (some 40, .ext (.t 35) 0), (some 41, .ext (.t 35) 1), (some 7, .mv (.t 40)), (some 8, .mv (.t 41))]⟩] [3, 6, 7, 8, 29, 30, 31])
 (.seq (.seq (.rg [⟨none, [(some 42, .mv (.t 3)), (some 43, .fldA (.t 6) 0 0), (some 44, .ld (.t 43) 1 false), (some 45, .call 10 [(.t 42), (.t 44), (.c (.int .i64 2))])]⟩] [3, 6, 7, 8, 29, 30, 31, 45])
 (.ite (.t 45)
 (.seq (.seq (.rg [⟨none, [(some 46, .mv (.t 8)), (some 47, .bin .neq (.t 46) (.c (.int .i64 201)))]⟩] [3, 29, 30, 31, 47])
 (.ite (.t 47)
 (.seq (.rg [⟨none, [(some 2, .mv (.c (.bool false)))]⟩] [2])
 .ret)
 .skip))
 (.exit 1))
 .skip))
 (.seq (.seq (.rg [⟨none, [(some 48, .mv (.t 8)), (some 49, .bin .eql (.t 48) (.c (.int .i64 3)))]⟩] [3, 6, 7, 8, 29, 30, 31, 49])
 (.ite (.t 49)
 (.exit 1)
 .skip))
 (.seq (.rg [⟨none, [(some 51, .mv (.t 3)), (some 52, .mv (.t 7)), (some 53, .call 11 [(.t 51), (.t 52)]), (some 50, .mv (.t 53)), (some 54, .ext (.t 50) 0), (some 55, .ext (.t 50) 1), (some 9, .mv (.t 54)), (some 10, .mv (.t 55))]⟩] [3, 6, 8, 9, 10, 29, 30, 31])
 (.seq (.seq (.rg [⟨none, [(some 56, .mv (.t 8)), (some 57, .bin .neq (.t 56) (.c (.int .i64 0)))]⟩] [3, 6, 9, 10, 29, 30, 31, 57])
 (.ite (.t 57)
 (.seq (.rg [⟨none, [(some 2, .mv (.c (.bool false)))]⟩] [2])
 .ret)
 .skip))
 (.seq (.rg [⟨none, [(some 11, .mv (.c (.bool true)))]⟩] [3, 6, 9, 10, 11, 29, 30, 31])
 (.seq (.seq (.rg [⟨none, [(some 58, .fldA (.t 6) 0 0), (some 59, .ld (.t 58) 1 false), (some 12, .mv (.t 59))]⟩] [3, 6, 9, 10, 11, 12, 29, 30, 31])
 (.block 2 (.loop c_law20_PathFinds_L0)))
 (.seq (.rg [⟨none, [(some 87, .mv (.t 11)), (some 88, .mv (.t 87))]⟩, ⟨some (88, true), [(some 89, .mv (.t 10)), (some 90, .bin .neq (.t 89) (.c (.int .i64 0))), (some 91, .mv (.t 90))]⟩, ⟨some (91, false), [(some 92, .mv (.t 9)), (some 93, .fldA (.t 6) 0 0), (some 94, .ld (.t 93) 1 false), (some 95, .bin .neq (.t 92) (.t 94))]⟩, ⟨some (88, true), [(some 96, .pick (.t 91) (.c (.bool true)) (.t 95))]⟩, ⟨none, [(some 97, .pick (.t 88) (.t 96) (.c (.bool false)))]⟩] [3, 29, 30, 31, 97])
 (.ite (.t 97)
 (.seq (.rg [⟨none, [(some 2, .mv (.c (.bool false)))]⟩] [2])
 .ret)
 .skip)))))))))))
 (.rg [⟨none, [(some 98, .bin .add (.t 31) (.c (.int .i64 1))), (some 31, .mv (.t 98))]⟩] [3, 29, 30, 31]))))
def c_law20_PathFinds : Cd :=
 (.seq (.rg [⟨none, [(some 2, .mv (.c (.bool false)))]⟩] [0])
 (.seq (.rg [⟨none, [(some 18, .mv (.t 0)), (some 19, .call 6 [(.t 18)]), (some 17, .mv (.t 19)), (some 20, .ext (.t 17) 0), (some 21, .ext (.t 17) 1), (some 3, .mv (.t 20)), (some 4, .mv (.t 21))]⟩] [3])
 (.seq (.seq (.rg [⟨none, [(some 22, .call 7 []), (some 23, .un .not (.t 22)), (some 24, .mv (.t 23))]⟩, ⟨some (24, false), [(some 25, .mv (.t 3)), (some 26, .eqA false 23 (.t 25) (.c (.pointer none)))]⟩, ⟨none, [(some 27, .pick (.t 24) (.c (.bool true)) (.t 26))]⟩] [3, 27])
 (.ite (.t 27)
 (.seq (.rg [⟨none, [(some 2, .mv (.c (.bool false)))]⟩] [2])
 .ret)
 .skip))
 (.seq (.seq (.rg [⟨none, [(some 28, .mv (.t 3)), (some 29, .call 8 [(.t 28)]), (none, .gh), (some 30, .len (.t 29)), (some 31, .mv (.c (.int .i64 0)))]⟩] [3, 29, 30, 31])
 (.block 0 (.loop c_law20_PathFinds_L1)))
 (.seq (.rg [⟨none, [(some 2, .mv (.c (.bool true)))]⟩] [2])
 .ret)))))
theorem k_law20_PathFinds : Ok Tryz.prog 3 c_law20_PathFinds 99 [] [.tmp 2] := Ok.mk' Tryz.func3 (by kernel_rfl) (by kernel_rfl) (by kernel_rfl)

end Go.Proofs.YtnoeabmpdjpfaaaGreatDoor.Vc

/- Of: the path of a node. -/
set_option linter.unusedVariables false
set_option linter.unusedSimpArgs false
set_option maxRecDepth 100000
namespace Go.Proofs.YtnoeabmpdjpfaaaGreatDoor.Vc
open Go Go.Proofs

/-- What Of tells. -/
def OfQ (T : PT) (n : Int) (rs : List GV) : Prop := ∃ s e, rs = [.s (.string s), .s (.int .i64 e)] ∧ (T.below n 2 = true → e = 201) ∧ (T.below n 2 = false → ∀ l, Way T l n → (l.length ≤ 64 → e = 0 ∧ s = Pa.mkS (Pa.joinS (namesW T l))) ∧ (64 < l.length → e = 3))
theorem namesW_sum {T : PT} (hg : VGood T.view) {l : List Int} {n : Int} (h : Way T l n) : (namesW T l).length = l.length ∧ ∀ x ∈ namesW T l, x.length ≤ 255 :=
  ⟨namesW_len T l, fun x hx => by
    obtain ⟨m, hm, rfl⟩ := List.mem_map.1 (List.mem_reverse.1 hx)
    exact Pa.nameA_len (h.name hg hm)⟩
theorem Way.eq {T : PT} : ∀ {l l' : List Int} {n : Int}, Way T l n → Way T l' n → l = l'
  | [], [], _, _, _ => rfl
  | [], _ :: _, n, h, h' => by
    have e : n = 1 := h
    have := h'.2.1
    rw [e] at this; cases this
  | _ :: _, [], n, h', h => by
    have e : n = 1 := h
    have := h'.2.1
    rw [e] at this; cases this
  | a :: l, b :: l', n, ⟨e, _, x, hx, hw⟩, ⟨e', _, x', hx', hw'⟩ => by
    rw [hx] at hx'; cases hx'
    rw [hw.eq hw', ← e, ← e']

section
variable {w : World} {u : PH} {L : Lay} {T : PT} {k : Nat}
theorem Of_spec (hu : u.le w) (hT : TM u L T) (n : Int) (hok : T.ok k) (hk' : k ≤ 1099511627776) (hg : VGood T.view) (hn : T.has n = true) :
    Spec Tryz.prog f_path_Of [ptr (L .t), .int .i64 n] PH.no w fun rs _ => OfQ T n rs := by
  refine spec_val k_path_Of (Qf := OfQ T n) [.g (.s (ptr (L .t))), .g (.s (.int .i64 n))] (by simp) (by simp [AV.ok, GV.ok, Value.oneCell', ptr]) ?_
  have hm := hok.many
  have hsm : ∀ n x, T.get n = some x → x.small := (ok_tells hok hk').small
  have hl0 : T.nodes.length ≠ 0 := fun e => by
    obtain ⟨x, hx⟩ := Option.isSome_iff_exists.1 hn
    have := getA_mem hx
    rw [List.length_eq_zero_iff.1 e] at this
    cases this
  have h2 : T.has 2 = true := has_iff.2 hg.two
  have node : ∀ (w' : World), (⟨Tryz.prog, 46, w, PH.no⟩ : Ctx).u0.le w' → ∀ (c : Int) (x : PN), T.get c = some x → Spec Tryz.prog f_tree_Tree_Node [ptr (L .t), .int .i64 c] PH.no w' fun rs _ => ∃ v, rs = [gTreeNode ⟨c, x.parent, x.name, v⟩, .s (.bool true)] := fun w' hw c x hx =>
    (Node_spec (fun b o h => hw b o (by rw [u0_no]; exact hu b o h)) hT c (hsm c)).mono fun rs m' h => by
      obtain ⟨v, e, _⟩ := h.2 x hx
      exact ⟨v, e⟩
  simp (maxSteps := 2000000) only [c_path_Of, vc_seq, vc_rg, thenQ_n, kKeep_eq, segs_nil, segs_n, ops_nil, ops_cons, vcOp, ev, look, put_mk, keep_mk, keepL, Value.oneCell', cond_true, Nat.reduceEqDiff, ↓reduceIte, reduceCtorEq, Nat.zero_add, initF, initP, gTreeNode_zero, ptr]
  refine call_is _ [.s (.int .i64 T.nodes.length)] rfl rfl (fun w' vs hv hw => ?_) ?_
  · obtain ⟨vs, rfl, _, hv⟩ := argsV_g hv
    obtain rfl := argsV_nil hv
    intro _
    exact Len_spec (fun b o h => hw b o (by rw [u0_no]; exact hu b o h)) hT
  simp (maxSteps := 2000000) only [retS, vc_skip, vc_ret, vc_seq, vc_rg, vc_ite, thenQ_n, thenQ_r, kKeep_eq, segs_nil, segs_n, ops_nil, ops_cons, vcOp, ev, look, put_mk, keep_mk, keepL, binV, binC, Value.oneCell', cond_true, Nat.reduceEqDiff, ↓reduceIte, reduceCtorEq, Bool.true_and, true_and, finW_r, resL, resOne, br_t]
  refine ⟨fun h => absurd (by simpa using h) hl0, fun _ => ?_⟩
  obtain ⟨x, hx⟩ := Option.isSome_iff_exists.1 hn
  refine call_val (dOk_spec rfl) rfl (Q := fun rs m' => ∃ v, rs = [gTreeNode ⟨n, x.parent, x.name, v⟩, .s (.bool true)]) (fun w' vs hv hw _ => ?_) fun rs m1 hrs hq => ?_
  · obtain ⟨vs, rfl, _, hv⟩ := argsV_g hv
    obtain ⟨vs, rfl, _, hv⟩ := argsV_g hv
    obtain rfl := argsV_nil hv
    exact node w' hw n x hx
  obtain ⟨v0, rfl⟩ := hq
  simp (maxSteps := 2000000) only [retS, List.getElem?_cons_zero, List.getElem?_cons_succ, vc_skip, vc_seq, vc_rg, vc_ite, thenQ_n, kKeep_eq, segs_nil, segs_n, ops_nil, ops_cons, vcOp, ev, look, updL, put_mk, put_mk0, keep_mk, keepL, unV, Nat.reduceEqDiff, ↓reduceIte, reduceCtorEq, Bool.and_true, Bool.true_and, Bool.not_true, true_and, and_true, ↓br_ft, getT_nil, setT_nil, gTreeNode_sz, gTreeNode_same]
  refine call_is _ [.s (.bool (T.below n 2))] rfl rfl (fun w' vs hv hw => ?_) ?_
  · obtain ⟨vs, rfl, _, hv⟩ := argsV_g hv
    obtain ⟨vs, rfl, _, hv⟩ := argsV_g hv
    obtain ⟨vs, rfl, _, hv⟩ := argsV_g hv
    obtain rfl := argsV_nil hv
    intro _
    have := BelowX_spec (fun b o h => hw b o (by rw [u0_no]; exact hu b o h)) hT n 2 (by omega)
    rwa [hn, h2, Bool.true_and, Bool.true_and] at this
  simp (maxSteps := 2000000) only [retS, vc_skip, vc_ret, vc_seq, vc_block, vc_rg, vc_ite, thenQ_n, thenQ_r, kKeep_eq, segs_nil, segs_n, ops_nil, ops_cons, vcOp, ev, look, put_mk, keep_mk, keepL, Value.oneCell', cond_true, Nat.reduceEqDiff, ↓reduceIte, reduceCtorEq, finW_r, resL, resOne, br_t]
  refine ⟨fun hb => ⟨_, _, rfl, fun _ => rfl, fun h => by rw [hb] at h; cases h⟩, fun hb => ?_⟩
  obtain ⟨l, hll, hl⟩ := way_at hok hg hn hb
  refine vc_loop (ι := List Int × List Int × Int × Value × PH) (fun q => ⟨[(0, .g (.s (.pointer (some ⟨L .t, 0, none⟩)))), (1, .g (.s (.int .i64 (q.2.2.1)))), (8, .g (.s q.2.2.2.1))], [], [], q.2.2.2.2⟩)
    (fun q => q.1 ++ q.2.1 = l ∧ q.1.length ≤ 64 ∧ Way T q.2.1 q.2.2.1 ∧ SlO q.2.2.2.2 q.2.2.2.1 9 1 ((namesW T q.1).map Pa.gN)) (fun q => q.2.1.length) ([], l, n, .slice none 0 0, PH.no) ⟨rfl, by simp, hl, ⟨fun x hx => by simp [namesW] at hx, .inl ⟨rfl, by simp [namesW]⟩⟩⟩ (ge_of ?_ ?_ rfl rfl rfl) ?_
  · simp [frIn, look]
  · simp [pvIn, look]
  rintro ⟨done, rest, cur, vN, mN⟩ ⟨hdr, hd, hW, hS⟩
  simp only at hdr hd hW hS
  generalize hQ : loopQ _ _ _ _ _ = Q
  simp (maxSteps := 2000000) only [c_path_Of_L0, vc_skip, vc_exit, vc_seq, vc_block, vc_rg, vc_ite, thenQ_n, thenQ_e, kKeep_eq, segs_nil, segs_n, ops_nil, ops_cons, vcOp, ev, look, put_mk, keep_mk, keepL, binV, binC, Value.oneCell', cond_true, Nat.reduceEqDiff, ↓reduceIte, reduceCtorEq, Bool.true_and, true_and, br_t, gTreeNode_zero]
  refine ⟨fun hc => ?_, fun hc => ?_⟩
  · cases rest with
    | nil => exact absurd (show cur = 1 from hW) (by simpa using hc)
    | cons m rest =>
      obtain ⟨rfl, htc, y, hy, hW'⟩ := hW
      refine call_val (dOk_spec rfl) rfl (Q := fun rs m' => ∃ v, rs = [gTreeNode ⟨cur, y.parent, y.name, v⟩, .s (.bool true)]) (fun w' vs hv hw _ => ?_) fun rs m1 hrs hq => ?_
      · obtain ⟨vs, rfl, _, hv⟩ := argsV_g hv
        obtain ⟨vs, rfl, _, hv⟩ := argsV_g hv
        obtain rfl := argsV_nil hv
        exact node w' hw cur y hy
      obtain ⟨v1, rfl⟩ := hq
      simp (maxSteps := 2000000) only [retS, List.getElem?_cons_zero, List.getElem?_cons_succ, vc_seq, vc_rg, thenQ_n, kKeep_eq, segs_nil, segs_n, ops_nil, ops_cons, vcOp, ev, evL, gvL, look, updL, put_mk, put_mk0, keep_mk, keepL, GV.getT, GV.sz, Nat.reduceEqDiff, ↓reduceIte, reduceCtorEq, List.nil_append, Nat.zero_add, Bool.and_true, Bool.true_and, Bool.not_false, true_and, and_true, Option.map_some, szAll, List.length_cons, List.length_nil, getT_nil, setT_nil, fits_s, gTreeNode_sz, gTreeNode_same, gTreeNode_fld2, gTreeNode_get2]
      refine gh_own 36 36 (.s (.string ⟨#[]⟩)) rfl rfl hS (uni_no_r _).symm (dis_no_r _) ?_
      simp (maxSteps := 2000000) only [ops_cons, vcOp, ev, look, updL, put_mk, rowE, cond_true, cond_false, Nat.reduceEqDiff, Nat.reduceBEq, ↓reduceIte, List.nil_append, List.cons_append, Nat.zero_add, Bool.and_true, Bool.true_and, BEq.rfl, true_and, and_true, List.length_cons, List.length_nil, kill, SV.mentions, ne_eq, not_false_eq_true, List.drop_zero, List.length_map]
      refine ⟨by rw [namesW_len]; omega, ?_⟩
      refine gh_pub 37 35 (1 + (namesW T done).length) rfl rfl (by simp; omega) fun v' u' hv' hS' hd' => ?_
      have eN : namesW T (done ++ [cur]) = nameL T cur :: namesW T done := by simp [namesW]
      have eS : GV.s (Value.string y.name) :: ((namesW T done).map Pa.gN).take (namesW T done).length = (namesW T (done ++ [cur])).map Pa.gN := by
        rw [eN, List.map_cons, List.take_of_length_le (by simp), Pa.gN, nameL_mk hy]
      rw [eS] at hS'
      rcases Pa.names_shape hS'.toR with ⟨h3, _⟩ | ⟨h3, b', o', c', h4, h5, _⟩
      · rw [eN] at h3; cases h3
      have h6 : (namesW T (done ++ [cur])).length = done.length + 1 := by rw [namesW_len]; simp
      rw [h6] at h4
      subst h4
      simp (maxSteps := 2000000) only [vc_skip, vc_ret, vc_seq, vc_rg, vc_ite, thenQ_n, blockQ_n, blockQ_r, kKeep_eq, segs_nil, segs_n, ops_nil, ops_cons, vcOp, ev, look, put_mk, keep_mk, keepL, binV, binC, Value.oneCell', cond_true, cond_false, Nat.reduceEqDiff, Nat.reduceBEq, ↓reduceIte, reduceCtorEq, List.nil_append, Bool.true_and, BEq.rfl, true_and, decide_eq_true_eq, decide_eq_false_iff_not, kill, SV.mentions, br_t, getT_nil]
      refine ⟨rfl, rfl, ?_⟩
      rw [uni_no_r, show (gTreeNode ⟨cur, y.parent, y.name, v1⟩).getT [1] = .s (.int .i64 y.parent) from rfl]
      have hll' : (done ++ [cur]).length + rest.length = l.length := by rw [← hdr]; simp; omega
      refine ⟨fun hg64 => ?_, fun hg64 => ?_⟩
      · subst hQ
        simp (maxSteps := 2000000) only [thenQ_r, blockQ_r, loopQ_r, look, Nat.reduceEqDiff, ↓reduceIte, finW_r, resL, resOne]
        refine ⟨_, _, rfl, (fun h => by rw [hb] at h; cases h), fun _ l' hl' => ?_⟩
        have := hl.eq hl'
        subst this
        simp only [List.length_append, List.length_cons, List.length_nil] at hll'
        exact ⟨fun h => by omega, fun _ => rfl⟩
      · subst hQ; simp only [loopQ_n]; refine ⟨(done ++ [cur], rest, y.parent, .slice (some ⟨b', o', none⟩) (done.length + 1) c', u'), ?_, ?_, ge_of ?_ ?_ rfl rfl rfl⟩
        · exact ⟨by simp [← hdr], by simp only [List.length_append, List.length_cons, List.length_nil]; omega, hW', hS'⟩
        · simp only [List.length_cons]; omega
        · simp only [frIn, look, Nat.reduceEqDiff, ↓reduceIte, reduceCtorEq, Bool.and_true, and_true]
          try simp
        · simp [pvIn, look]
  · subst hQ
    simp (maxSteps := 2000000) only [vc_seq, vc_rg, thenQ_n, blockQ_e, loopQ_e, segs_n, ops_cons, vcOp, ev, look, put_mk, Nat.reduceEqDiff, ↓reduceIte, reduceCtorEq]
    have hc1 : cur = 1 := by simpa using hc
    subst hc1
    have hr : rest = [] := by
      cases rest with
      | nil => rfl
      | cons m rest => exact absurd hW.2.1 (by decide)
    subst hr
    rw [List.append_nil] at hdr
    subst hdr
    obtain ⟨hlen, hsz⟩ := namesW_sum hg hl
    have hsum : ((namesW T done).map List.length).sum + (namesW T done).length ≤ 140737488355328 := by
      have := Pa.sumL_le (ns := namesW T done) fun x hx => by
        obtain ⟨m, hm, rfl⟩ := List.mem_map.1 (List.mem_reverse.1 hx)
        exact hl.name hg hm
      unfold Pa.sumL at this
      omega
    refine call_ism _ [.s (.string (Pa.mkS (Lib.join (namesW T done) [47])))] rfl rfl (fun w' vs hv _ _ hm => ?_) ?_
    · obtain ⟨vs, rfl, _, hv⟩ := argsV_g hv
      obtain ⟨vs, rfl, _, hv⟩ := argsV_g hv
      obtain rfl := argsV_nil hv
      exact Pa.Join_spec w' vN (namesW T done) hsum mN hm hS.toR
    simp (maxSteps := 2000000) only [retS, vc_ret, thenQ_n, kKeep_eq, segs_nil, ops_nil, ops_cons, vcOp, ev, look, put_mk, keep_mk, keepL, binV, binC, Value.oneCell', cond_true, Nat.reduceEqDiff, ↓reduceIte, finW_r, resL, resOne]
    have hjl := Pa.join_len (namesW T done)
    refine ⟨?_, _, _, rfl, (fun h => by rw [hb] at h; cases h), fun _ l' hl' => ?_⟩
    · rw [Pa.mkS_size, show (⟨#[47]⟩ : ByteArray).size = 1 from rfl]
      omega
    have := hl.eq hl'
    subst this
    refine ⟨fun _ => ⟨rfl, ?_⟩, fun h => by omega⟩
    rw [show (⟨#[47]⟩ : ByteArray) = Pa.mkS [47] from rfl, Pa.mkS_app]
    rfl
end
end Go.Proofs.YtnoeabmpdjpfaaaGreatDoor.Vc

/- Resolve: the node at a path. -/
set_option linter.unusedVariables false
set_option linter.unusedSimpArgs false
set_option maxRecDepth 100000
namespace Go.Proofs.YtnoeabmpdjpfaaaGreatDoor.Vc
open Go Go.Proofs

theorem way_step {T : PT} (hkd : T.kidsOk) (hg : VGood T.view) {l : List Int} {n : Int} {i : Nat} (h : Way T l n) (hi : i < l.length) (ha : ∀ m ∈ l, Alone T m) {cur : Int} {y : PN} (hc : Way T (l.drop (l.length - i)) cur) (hy : T.get cur = some y) {best : Int}
    (hL : LookP T (Pa.mkS ((namesW T l).getD i [])) y.kids best) : best ≠ 0 ∧ Way T (l.drop (l.length - (i + 1))) best := by
  obtain ⟨j, hj⟩ : ∃ j, l.length - (i + 1) = j := ⟨_, rfl⟩
  have hj2 : l.length - i = j + 1 := by omega
  rw [hj2] at hc
  rw [hj]
  have hjl : j < l.length := by omega
  obtain ⟨m0, hm0⟩ := h.drop j
  rw [List.drop_eq_getElem_cons hjl] at hm0 ⊢
  obtain ⟨rfl, ht, x, hx, hw⟩ := hm0
  have e := hw.uniq hc
  subst e
  have hn : (namesW T l).getD i [] = nameL T l[j] := by
    rw [List.getD_eq_getElem?_getD, namesW, List.getElem?_reverse (by rw [List.length_map]; exact hi), List.length_map, List.getElem?_map, show l.length - 1 - i = j by omega, List.getElem?_eq_getElem hjl]
    rfl
  rw [hn, nameL_mk hx] at hL
  obtain ⟨h0, h1⟩ := look_alone hkd hg hx ht hy hL
  have := h1.2 (ha _ (List.getElem_mem hjl))
  exact ⟨h0, by rw [this]; exact ⟨rfl, ht, x, hx, hc⟩⟩

/-- What Resolve tells. -/
def ResQ (T : PT) (p : List UInt8) (rs : List GV) : Prop := ∃ g e, rs = [.s (.int .i64 g), .s (.int .i64 e)] ∧ ∀ l n, Way T l n → l.length ≤ 64 → p = Pa.joinS (namesW T l) → (∀ m ∈ l, Alone T m) → g = n ∧ e = 0

section
variable {w : World} {u : PH} {L : Lay} {T : PT} {k : Nat}
theorem Resolve_spec (hu : u.le w) (hT : TM u L T) (p : List UInt8) (hp : p.length < 4294967281) (uG : PH) (huG : uG.le w) (hG : Pa.GlobI uG) (hok : T.ok k) (hk' : k ≤ 1099511627776) (hg : VGood T.view) (hkd : T.kidsOk) :
    Spec Tryz.prog f_path_Resolve [ptr (L .t), .string (Pa.mkS p)] PH.no w fun rs _ => ResQ T p rs := by
  refine spec_val k_path_Resolve (Qf := ResQ T p) [.g (.s (ptr (L .t))), .g (.s (.string (Pa.mkS p)))] (by simp) (by simp [AV.ok, GV.ok, Value.oneCell', ptr]) ?_
  have hl0 : T.nodes.length ≠ 0 := fun e => by
    obtain ⟨a, ha⟩ := Option.ne_none_iff_exists'.1 hg.one
    obtain ⟨y, hy, _⟩ := get_of_view ha
    have := getA_mem hy
    rw [List.length_eq_zero_iff.1 e] at this
    cases this
  obtain ⟨y1, hy1⟩ : ∃ y, T.get 1 = some y := by
    obtain ⟨a, ha⟩ := Option.ne_none_iff_exists'.1 hg.one
    obtain ⟨y, hy, _⟩ := get_of_view ha
    exact ⟨y, hy⟩
  simp (maxSteps := 2000000) only [c_path_Resolve, vc_seq, vc_rg, thenQ_n, kKeep_eq, segs_nil, segs_n, ops_nil, ops_cons, vcOp, ev, look, put_mk, keep_mk, keepL, Value.oneCell', cond_true, Nat.reduceEqDiff, ↓reduceIte, reduceCtorEq, Nat.zero_add, initF, initP, ptr]
  refine call_is _ [.s (.int .i64 T.nodes.length)] rfl rfl (fun w' vs hv hw => ?_) ?_
  · obtain ⟨vs, rfl, _, hv⟩ := argsV_g hv
    obtain rfl := argsV_nil hv
    intro _
    exact Len_spec (fun b o h => hw b o (by rw [u0_no]; exact hu b o h)) hT
  simp (maxSteps := 2000000) only [retS, vc_skip, vc_ret, vc_seq, vc_rg, vc_ite, thenQ_n, thenQ_r, kKeep_eq, segs_nil, segs_n, ops_nil, ops_cons, vcOp, ev, look, put_mk, keep_mk, keepL, binV, binC, Value.oneCell', cond_true, Nat.reduceEqDiff, ↓reduceIte, reduceCtorEq, Bool.true_and, true_and, finW_r, resL, resOne, br_t]
  refine ⟨fun h => absurd (by simpa using h) hl0, fun _ => ?_⟩
  refine call_frz (dOk_spec rfl) rfl (Q := Pa.SplitR (Pa.splitA p)) (fun w' vs hv hw _ => ?_) fun rs m' hrs hq => ?_
  · obtain ⟨vs, rfl, _, hv⟩ := argsV_g hv
    obtain rfl := argsV_nil hv
    exact Pa.pSplit_spec w' p hp uG (fun b o hb => hw b o (by rw [u0_no]; exact huG b o hb)) hG
  obtain ⟨ns, er, hse⟩ : ∃ ns er, Pa.splitA p = (ns, er) := ⟨_, _, rfl⟩
  rw [hse] at hq
  obtain ⟨v, rfl, hv⟩ := hq
  simp only at hv
  have hsw : ∀ l n, Way T l n → l.length ≤ 64 → p = Pa.joinS (namesW T l) → ns = namesW T l ∧ er = 0 := fun l n h1 h2 h3 => by
    have := Pa.split_join (h1.wrong hg h2)
    rw [← h3, hse] at this
    exact ⟨congrArg Prod.fst this, congrArg Prod.snd this⟩
  have hnl : ns.length ≤ 64 := by
    have := Pa.splitA_len p
    rwa [hse] at this
  simp (maxSteps := 2000000) only [retS, List.getElem?_cons_zero, List.getElem?_cons_succ, vc_skip, vc_ret, vc_seq, vc_rg, vc_ite, thenQ_n, thenQ_r, kKeep_eq, segs_nil, segs_n, ops_nil, ops_cons, vcOp, ev, look, put_mk, keep_mk, keepL, binV, binC, Value.oneCell', cond_true, Nat.reduceEqDiff, ↓reduceIte, reduceCtorEq, Bool.true_and, true_and, finW_r, resL, resOne, br_t]
  refine ⟨fun he => ?_, fun he => ?_⟩
  · refine ⟨_, _, rfl, fun l n h1 h2 h3 _ => ?_⟩
    have := (hsw l n h1 h2 h3).2
    rw [this] at he
    simp at he
  refine gh_rk 24 24 (.s (.string ⟨#[]⟩)) rfl rfl hv.toR (KN.mem (by simp)) ?_
  simp (maxSteps := 2000000) only [vc_block, thenQ_n, kKeep_eq, segs_nil, ops_nil, ops_cons, vcOp, ev, look, put_mk, keep_mk, keepL, Value.oneCell', cond_true, Nat.reduceEqDiff, ↓reduceIte, reduceCtorEq, List.length_map]
  refine vc_loop (ι := Nat × Int) (fun q => ⟨[(0, .g (.s (.pointer (some ⟨L .t, 0, none⟩)))), (8, .g (.s (.int .i64 (q.2)))), (24, .row 24 0 (ns.length)), (25, .g (.s (.int .i64 (ns.length)))), (26, .g (.s (.int .i64 (q.1))))], [(24, .ro 1 (.s (.string ⟨#[]⟩)) (ns.map Pa.gN))], [m'], PH.no⟩)
    (fun q => q.1 ≤ ns.length ∧ (∃ y, T.get q.2 = some y) ∧ ∀ l n, Way T l n → l.length ≤ 64 → p = Pa.joinS (namesW T l) → (∀ m ∈ l, Alone T m) → Way T (l.drop (l.length - q.1)) q.2) (fun q => ns.length - q.1) (0, 1) ⟨by simp, ⟨y1, hy1⟩, fun l n _ _ _ _ => by simp [Way]⟩ (ge_of ?_ ?_ rfl rfl rfl) ?_
  · simp [frIn, look]
  · simp [pvIn, look]
  rintro ⟨i, cur⟩ ⟨hi, ⟨y, hy⟩, hW⟩
  simp only at hi hy hW
  generalize hQ : loopQ _ _ _ _ _ = Q
  simp (maxSteps := 2000000) only [c_path_Resolve_L0, Pa.getD_gN, vc_skip, vc_exit, vc_seq, vc_block, vc_rg, vc_ite, thenQ_n, thenQ_e, kKeep_eq, segs_nil, segs_n, ops_nil, ops_cons, vcOp, ev, look, put_mk, keep_mk, keepL, rowE, rowD, binV, binC, Nat.reduceEqDiff, ↓reduceIte, reduceCtorEq, Nat.zero_add, Bool.true_and, Bool.not_false, true_and, Int.toNat_natCast, decide_eq_true_eq, decide_eq_false_iff_not, br_t, getT_nil, fits_s]
  refine ⟨fun hlt => ⟨⟨by omega, by omega⟩, ?_⟩, fun hge => ?_⟩
  · refine call_val (dOk_spec rfl) rfl (Q := fun rs m' => ∃ best, rs = [.s (.int .i64 best), .s (.bool (best != 0))] ∧ LookP T (Pa.mkS (ns.getD i [])) y.kids best) (fun w' vs hv hw _ => ?_) fun rs m1 hrs hq => ?_
    · obtain ⟨vs, rfl, _, hv⟩ := argsV_g hv
      obtain ⟨vs, rfl, _, hv⟩ := argsV_g hv
      obtain ⟨vs, rfl, _, hv⟩ := argsV_g hv
      obtain rfl := argsV_nil hv
      exact Lookup_spec w' u (fun b o h => hw b o (by rw [u0_no]; exact hu b o h)) L T hT cur _ y hy (kids_get hkd hg hy)
    obtain ⟨best, rfl, hL⟩ := hq
    have hstep : ∀ l n, Way T l n → l.length ≤ 64 → p = Pa.joinS (namesW T l) → (∀ m ∈ l, Alone T m) → best ≠ 0 ∧ Way T (l.drop (l.length - (i + 1))) best := fun l n h1 h2 h3 h4 => by
      have e := (hsw l n h1 h2 h3).1
      rw [e] at hL
      exact way_step hkd hg h1 (by rw [← namesW_len T l, ← e]; omega) h4 (hW l n h1 h2 h3 h4) hy hL
    simp (maxSteps := 2000000) only [retS, List.getElem?_cons_zero, List.getElem?_cons_succ, vc_skip, vc_ret, vc_seq, vc_rg, vc_ite, thenQ_n, thenQ_r, blockQ_n, blockQ_r, kKeep_eq, segs_nil, segs_n, ops_nil, ops_cons, vcOp, ev, look, put_mk, keep_mk, keepL, binV, binC, unV, Value.oneCell', cond_true, Nat.reduceEqDiff, ↓reduceIte, reduceCtorEq, Bool.true_and, true_and, br_t]
    refine ⟨fun hb => ?_, fun hb => ?_⟩
    · subst hQ
      simp (maxSteps := 2000000) only [thenQ_r, blockQ_r, loopQ_r, look, Nat.reduceEqDiff, ↓reduceIte, finW_r, resL, resOne]
      refine ⟨_, _, rfl, fun l n h1 h2 h3 h4 => ?_⟩
      have := (hstep l n h1 h2 h3 h4).1
      simp [this] at hb
    · have hb0 : best ≠ 0 := by simpa using hb
      subst hQ; simp only [loopQ_n]; refine ⟨(i + 1, best), ?_, ?_, ge_of ?_ ?_ rfl rfl rfl⟩
      · refine ⟨by simp only; omega, ?_, fun l n h1 h2 h3 h4 => (hstep l n h1 h2 h3 h4).2⟩
        rcases hL with ⟨h1, _⟩ | ⟨h1, _, _⟩
        · exact absurd h1 hb0
        · exact (kids_get hkd hg hy best h1).2
      · simp only; omega
      · simp only [frIn, look, Nat.reduceEqDiff, ↓reduceIte, reduceCtorEq, Bool.and_true, Bool.true_and, true_and, and_true]
        rw [wrap_n (by omega)]
        try simp
      · simp [pvIn, look]
  · subst hQ
    simp (maxSteps := 2000000) only [vc_ret, vc_seq, vc_rg, thenQ_n, blockQ_e, kKeep_eq, loopQ_e, segs_nil, segs_n, ops_nil, ops_cons, vcOp, ev, look, put_mk, keep_mk, keepL, Value.oneCell', cond_true, Nat.reduceEqDiff, ↓reduceIte, reduceCtorEq, finW_r, resL, resOne]
    refine ⟨_, _, rfl, fun l n h1 h2 h3 h4 => ⟨?_, rfl⟩⟩
    have := hW l n h1 h2 h3 h4
    have e := congrArg List.length (hsw l n h1 h2 h3).1
    rw [namesW_len] at e
    rw [show l.length - i = 0 by omega, List.drop_zero] at this
    exact this.uniq h1
end
end Go.Proofs.YtnoeabmpdjpfaaaGreatDoor.Vc

/- What a path leads to, in terms of what a tree shows: plain. -/
set_option linter.unusedVariables false
set_option linter.unusedSimpArgs false
namespace Go.Proofs.YtnoeabmpdjpfaaaGreatDoor.Vc
open Go

/-- A node below n of this name. -/
def HasV (v : Int → Option AN) (name : ByteArray) (n c : Int) : Prop := topB c = false ∧ ∃ a, v c = some a ∧ a.parent = n ∧ a.name = name
/-- The least of them; 0 where there is none. -/
def LookV (v : Int → Option AN) (name : ByteArray) (n best : Int) : Prop := (best = 0 ∧ ∀ c, ¬ HasV v name n c) ∨ (HasV v name n best ∧ ∀ c, HasV v name n c → best ≤ c)
theorem LookV.uniq {v : Int → Option AN} (hp : ∀ n a, v n = some a → 0 < n) {name : ByteArray} {n a b : Int} (h : LookV v name n a) (h' : LookV v name n b) : a = b := by
  rcases h with ⟨e, h⟩ | ⟨h1, h2⟩ <;> rcases h' with ⟨e', h'⟩ | ⟨h1', h2'⟩
  · omega
  · exact absurd h1' (h _)
  · exact absurd h1 (h' _)
  · have := h2 b h1'
    have := h2' a h1
    omega
theorem LookP.toV {T : PT} (hkd : T.kidsOk) {name : ByteArray} {n best : Int} {y : PN} (hy : T.get n = some y) (h : LookP T name y.kids best) : LookV T.view name n best := by
  have key : ∀ c, HasV T.view name n c ↔ c ∈ y.kids ∧ T.nameIs c name := fun c => by
    constructor
    · rintro ⟨ht, a, h1, h2, h3⟩
      obtain ⟨x, hx, rfl⟩ := get_of_view h1
      exact ⟨(hkd.mem n y c hy).2 ⟨ht, x, hx, h2⟩, x, hx, h3⟩
    · rintro ⟨hc, x, hx, hn⟩
      obtain ⟨ht, x', hx', hp⟩ := (hkd.mem n y c hy).1 hc
      rw [hx] at hx'; cases hx'
      exact ⟨ht, x.view, PT.view_get hx, hp, hn⟩
  rcases h with ⟨h1, h2⟩ | ⟨h1, h2, h3⟩
  · exact .inl ⟨h1, fun c hc => h2 c ((key c).1 hc).1 ((key c).1 hc).2⟩
  · exact .inr ⟨(key best).2 ⟨h1, h2⟩, fun c hc => h3 c ((key c).1 hc).1 ((key c).1 hc).2⟩
/-- Down by names: where it ends, and with what. -/
def ResV (v : Int → Option AN) : List (List UInt8) → Int → Int → Int → Prop
  | [], cur, g, e => g = cur ∧ e = 0
  | a :: ns, cur, g, e => ∃ best, LookV v (Pa.mkS a) cur best ∧ (best = 0 → g = 0 ∧ e = 4) ∧ (best ≠ 0 → ResV v ns best g e)
theorem ResV.uniq {v : Int → Option AN} (hp : ∀ n a, v n = some a → 0 < n) : ∀ {ns : List (List UInt8)} {cur g e g' e' : Int}, ResV v ns cur g e → ResV v ns cur g' e' → g = g' ∧ e = e'
  | [], _, _, _, _, _, h, h' => ⟨h.1.trans h'.1.symm, h.2.trans h'.2.symm⟩
  | a :: ns, cur, g, e, g', e', ⟨b, h1, h2, h3⟩, ⟨b', h1', h2', h3'⟩ => by
    have eb := h1.uniq hp h1'
    subst eb
    by_cases hb : b = 0
    · exact ⟨(h2 hb).1.trans (h2' hb).1.symm, (h2 hb).2.trans (h2' hb).2.symm⟩
    · exact (h3 hb).uniq hp (h3' hb)
/-- The way so far: down by these, to here. -/
theorem ResV.snoc {v : Int → Option AN} {g e : Int} : ∀ {ns : List (List UInt8)} {ms : List (List UInt8)} {cur m : Int}, (∀ g e, ResV v ms m g e → ResV v (ns ++ ms) cur g e) → ResV v ms m g e → ResV v (ns ++ ms) cur g e :=
  fun h h' => h _ _ h'
end Go.Proofs.YtnoeabmpdjpfaaaGreatDoor.Vc

/- Resolve, to the number: what is told hangs on what the tree shows. -/
set_option linter.unusedVariables false
set_option linter.unusedSimpArgs false
set_option maxRecDepth 100000
namespace Go.Proofs.YtnoeabmpdjpfaaaGreatDoor.Vc
open Go Go.Proofs

/-- What Resolve tells, exactly. -/
def ResX (T : PT) (p : List UInt8) (rs : List GV) : Prop := ∃ g e, rs = [.s (.int .i64 g), .s (.int .i64 e)] ∧ ((Pa.splitA p).2 ≠ 0 → g = 0 ∧ e = (Pa.splitA p).2) ∧ ((Pa.splitA p).2 = 0 → ResV T.view (Pa.splitA p).1 1 g e) ∧ (e = 0 → ∃ x, T.get g = some x)

section
variable {w : World} {u : PH} {L : Lay} {T : PT} {k : Nat}
theorem ResolveX_spec (hu : u.le w) (hT : TM u L T) (p : List UInt8) (hp : p.length < 4294967281) (uG : PH) (huG : uG.le w) (hG : Pa.GlobI uG) (hok : T.ok k) (hk' : k ≤ 1099511627776) (hg : VGood T.view) (hkd : T.kidsOk) :
    Spec Tryz.prog f_path_Resolve [ptr (L .t), .string (Pa.mkS p)] PH.no w fun rs _ => ResX T p rs := by
  refine spec_val k_path_Resolve (Qf := ResX T p) [.g (.s (ptr (L .t))), .g (.s (.string (Pa.mkS p)))] (by simp) (by simp [AV.ok, GV.ok, Value.oneCell', ptr]) ?_
  have hl0 : T.nodes.length ≠ 0 := fun e => by
    obtain ⟨a, ha⟩ := Option.ne_none_iff_exists'.1 hg.one
    obtain ⟨y, hy, _⟩ := get_of_view ha
    have := getA_mem hy
    rw [List.length_eq_zero_iff.1 e] at this
    cases this
  obtain ⟨y1, hy1⟩ : ∃ y, T.get 1 = some y := by
    obtain ⟨a, ha⟩ := Option.ne_none_iff_exists'.1 hg.one
    obtain ⟨y, hy, _⟩ := get_of_view ha
    exact ⟨y, hy⟩
  simp (maxSteps := 2000000) only [c_path_Resolve, vc_seq, vc_rg, thenQ_n, kKeep_eq, segs_nil, segs_n, ops_nil, ops_cons, vcOp, ev, look, put_mk, keep_mk, keepL, Value.oneCell', cond_true, Nat.reduceEqDiff, ↓reduceIte, reduceCtorEq, Nat.zero_add, initF, initP, ptr]
  refine call_is _ [.s (.int .i64 T.nodes.length)] rfl rfl (fun w' vs hv hw => ?_) ?_
  · obtain ⟨vs, rfl, _, hv⟩ := argsV_g hv
    obtain rfl := argsV_nil hv
    intro _
    exact Len_spec (fun b o h => hw b o (by rw [u0_no]; exact hu b o h)) hT
  simp (maxSteps := 2000000) only [retS, vc_skip, vc_ret, vc_seq, vc_rg, vc_ite, thenQ_n, thenQ_r, kKeep_eq, segs_nil, segs_n, ops_nil, ops_cons, vcOp, ev, look, put_mk, keep_mk, keepL, binV, binC, Value.oneCell', cond_true, Nat.reduceEqDiff, ↓reduceIte, reduceCtorEq, Bool.true_and, true_and, finW_r, resL, resOne, br_t]
  refine ⟨fun h => absurd (by simpa using h) hl0, fun _ => ?_⟩
  refine call_frz (dOk_spec rfl) rfl (Q := Pa.SplitR (Pa.splitA p)) (fun w' vs hv hw _ => ?_) fun rs m' hrs hq => ?_
  · obtain ⟨vs, rfl, _, hv⟩ := argsV_g hv
    obtain rfl := argsV_nil hv
    exact Pa.pSplit_spec w' p hp uG (fun b o hb => hw b o (by rw [u0_no]; exact huG b o hb)) hG
  obtain ⟨ns, er, hse⟩ : ∃ ns er, Pa.splitA p = (ns, er) := ⟨_, _, rfl⟩
  rw [hse] at hq
  obtain ⟨v, rfl, hv⟩ := hq
  simp only at hv
  have hnl : ns.length ≤ 64 := by
    have := Pa.splitA_len p
    rwa [hse] at this
  simp (maxSteps := 2000000) only [retS, List.getElem?_cons_zero, List.getElem?_cons_succ, vc_skip, vc_ret, vc_seq, vc_rg, vc_ite, thenQ_n, thenQ_r, kKeep_eq, segs_nil, segs_n, ops_nil, ops_cons, vcOp, ev, look, put_mk, keep_mk, keepL, binV, binC, Value.oneCell', cond_true, Nat.reduceEqDiff, ↓reduceIte, reduceCtorEq, Bool.true_and, true_and, finW_r, resL, resOne, br_t]
  refine ⟨fun he => ?_, fun he => ?_⟩
  · have he' : er ≠ 0 := by simpa using he
    refine ⟨_, _, rfl, fun _ => ⟨rfl, by rw [hse]⟩, fun h => ?_, fun h => absurd h he'⟩
    rw [hse] at h
    exact absurd h he'
  refine gh_rk 24 24 (.s (.string ⟨#[]⟩)) rfl rfl hv.toR (KN.mem (by simp)) ?_
  simp (maxSteps := 2000000) only [vc_block, thenQ_n, kKeep_eq, segs_nil, ops_nil, ops_cons, vcOp, ev, look, put_mk, keep_mk, keepL, Value.oneCell', cond_true, Nat.reduceEqDiff, ↓reduceIte, reduceCtorEq, List.length_map]
  refine vc_loop (ι := Nat × Int) (fun q => ⟨[(0, .g (.s (.pointer (some ⟨L .t, 0, none⟩)))), (8, .g (.s (.int .i64 (q.2)))), (24, .row 24 0 (ns.length)), (25, .g (.s (.int .i64 (ns.length)))), (26, .g (.s (.int .i64 (q.1))))], [(24, .ro 1 (.s (.string ⟨#[]⟩)) (ns.map Pa.gN))], [m'], PH.no⟩)
    (fun q => q.1 ≤ ns.length ∧ (∃ y, T.get q.2 = some y) ∧ ∀ g e, ResV T.view (ns.drop q.1) q.2 g e → ResV T.view ns 1 g e) (fun q => ns.length - q.1) (0, 1) ⟨by simp, ⟨y1, hy1⟩, fun g e h => h⟩ (ge_of ?_ ?_ rfl rfl rfl) ?_
  · simp [frIn, look]
  · simp [pvIn, look]
  rintro ⟨i, cur⟩ ⟨hi, ⟨y, hy⟩, hW⟩
  simp only at hi hy hW
  generalize hQ : loopQ _ _ _ _ _ = Q
  simp (maxSteps := 2000000) only [c_path_Resolve_L0, Pa.getD_gN, vc_skip, vc_exit, vc_seq, vc_block, vc_rg, vc_ite, thenQ_n, thenQ_e, kKeep_eq, segs_nil, segs_n, ops_nil, ops_cons, vcOp, ev, look, put_mk, keep_mk, keepL, rowE, rowD, binV, binC, Nat.reduceEqDiff, ↓reduceIte, reduceCtorEq, Nat.zero_add, Bool.true_and, Bool.not_false, true_and, Int.toNat_natCast, decide_eq_true_eq, decide_eq_false_iff_not, br_t, getT_nil, fits_s]
  refine ⟨fun hlt => ⟨⟨by omega, by omega⟩, ?_⟩, fun hge => ?_⟩
  · refine call_val (dOk_spec rfl) rfl (Q := fun rs m' => ∃ best, rs = [.s (.int .i64 best), .s (.bool (best != 0))] ∧ LookP T (Pa.mkS (ns.getD i [])) y.kids best) (fun w' vs hv hw _ => ?_) fun rs m1 hrs hq => ?_
    · obtain ⟨vs, rfl, _, hv⟩ := argsV_g hv
      obtain ⟨vs, rfl, _, hv⟩ := argsV_g hv
      obtain ⟨vs, rfl, _, hv⟩ := argsV_g hv
      obtain rfl := argsV_nil hv
      exact Lookup_spec w' u (fun b o h => hw b o (by rw [u0_no]; exact hu b o h)) L T hT cur _ y hy (kids_get hkd hg hy)
    obtain ⟨best, rfl, hL⟩ := hq
    have hV := hL.toV hkd hy
    have hdr : ns.drop i = ns.getD i [] :: ns.drop (i + 1) := by
      have hi2 : i < ns.length := by omega
      rw [List.drop_eq_getElem_cons hi2, List.getD_eq_getElem?_getD, List.getElem?_eq_getElem hi2]; rfl
    have he0 : er = 0 := by simpa using he
    simp (maxSteps := 2000000) only [retS, List.getElem?_cons_zero, List.getElem?_cons_succ, vc_skip, vc_ret, vc_seq, vc_rg, vc_ite, thenQ_n, thenQ_r, blockQ_n, blockQ_r, kKeep_eq, segs_nil, segs_n, ops_nil, ops_cons, vcOp, ev, look, put_mk, keep_mk, keepL, binV, binC, unV, Value.oneCell', cond_true, Nat.reduceEqDiff, ↓reduceIte, reduceCtorEq, Bool.true_and, true_and, br_t]
    refine ⟨fun hb => ?_, fun hb => ?_⟩
    · subst hQ
      simp (maxSteps := 2000000) only [thenQ_r, blockQ_r, loopQ_r, look, Nat.reduceEqDiff, ↓reduceIte, finW_r, resL, resOne]
      have hb0 : best = 0 := by simpa using hb
      refine ⟨_, _, rfl, fun h => ?_, fun _ => ?_, fun h => by cases h⟩
      · rw [hse] at h; exact absurd he0 h
      · rw [hse]
        exact hW _ _ (by rw [hdr]; exact ⟨best, hV, fun _ => ⟨rfl, rfl⟩, fun h => absurd hb0 h⟩)
    · have hb0 : best ≠ 0 := by simpa using hb
      subst hQ; simp only [loopQ_n]; refine ⟨(i + 1, best), ?_, ?_, ge_of ?_ ?_ rfl rfl rfl⟩
      · refine ⟨by simp only; omega, ?_, fun g e h => hW g e (by rw [hdr]; exact ⟨best, hV, fun h => absurd h hb0, fun _ => h⟩)⟩
        rcases hL with ⟨h1, _⟩ | ⟨h1, _, _⟩
        · exact absurd h1 hb0
        · exact (kids_get hkd hg hy best h1).2
      · simp only; omega
      · simp only [frIn, look, Nat.reduceEqDiff, ↓reduceIte, reduceCtorEq, Bool.and_true, Bool.true_and, true_and, and_true]
        rw [wrap_n (by omega)]
        try simp
      · simp [pvIn, look]
  · subst hQ
    simp (maxSteps := 2000000) only [vc_ret, vc_seq, vc_rg, thenQ_n, blockQ_e, kKeep_eq, loopQ_e, segs_nil, segs_n, ops_nil, ops_cons, vcOp, ev, look, put_mk, keep_mk, keepL, Value.oneCell', cond_true, Nat.reduceEqDiff, ↓reduceIte, reduceCtorEq, finW_r, resL, resOne]
    have he0 : er = 0 := by simpa using he
    refine ⟨_, _, rfl, fun h => ?_, fun _ => ?_, fun _ => ⟨y, hy⟩⟩
    · rw [hse] at h; exact absurd he0 h
    · rw [hse]
      exact hW _ _ (by rw [show i = ns.length by omega, List.drop_length]; exact ⟨rfl, rfl⟩)
end
end Go.Proofs.YtnoeabmpdjpfaaaGreatDoor.Vc

/- The order of children: what their comparator tells, walked with the kit's tactics (the sort of the kit asks how many draws and blocks it takes). -/
set_option maxRecDepth 100000
namespace Go.Proofs.YtnoeabmpdjpfaaaGreatDoor.Vc
open Go Go.Proofs Go.Lib
theorem isNaN_s (s : ByteArray) (w : World) : Calls Tryz.prog 90 #[.string s] w fun e w' => e = .returned (.bool false) ∧ w' = w := by
  go_enter Tryz.func90, Tryz.ntmps90
  go_wp2
  go_ret
  exact ⟨by simp, rfl⟩
theorem isNaN_i (n : Int) (w : World) : Calls Tryz.prog 91 #[.int .i64 n] w fun e w' => e = .returned (.bool false) ∧ w' = w := by
  go_enter Tryz.func91, Tryz.ntmps91
  go_wp2
  go_ret
  exact ⟨by simp, rfl⟩
set_option maxHeartbeats 1000000 in
theorem compare_i (x y : Int) (w : World) : Calls Tryz.prog 74 #[.int .i64 x, .int .i64 y] w fun e w' => e = .returned (.int .i64 (Lib.compareInt x y)) ∧ w' = w := by
  go_enter Tryz.func74, Tryz.ntmps74
  go_wp2_with (go_at_call 91; refine (isNaN_i _ _).mono ?_; rintro e w' ⟨rfl, hw⟩; rw [hw])
  all_goals (go_ret; refine ⟨?_, rfl⟩; unfold Lib.compareInt; (repeat' split) <;> first | rfl | (exfalso; omega))
theorem gtr_s (t : TypeId) (x y : ByteArray) (w : World) : Sem.run Tryz.prog (binOp .gtr t (.string x) (.string y)) w = .ok (.bool (!(Op.bytesLess x.toList y.toList || decide (x = y)))) w := by
  have e := toList_eq' x y
  simp [binOp, Op.stringOp, e]
def cmpS (x y : ByteArray) : Int := if Op.bytesLess x.toList y.toList = true then -1 else if x = y then 0 else 1
set_option maxHeartbeats 1000000 in
theorem compare_s (x y : ByteArray) (w : World) : Calls Tryz.prog 73 #[.string x, .string y] w fun e w' => e = .returned (.int .i64 (cmpS x y)) ∧ w' = w := by
  go_enter Tryz.func73, Tryz.ntmps73
  go_wp2_with (first | (go_at_call 90; refine (isNaN_s _ _).mono ?_; rintro e w' ⟨rfl, hw⟩; rw [hw]) | rw [gtr_s])
  all_goals (go_ret; refine ⟨?_, rfl⟩; unfold cmpS; simp_all)
def orV (a b : Int) : Int := if a = 0 then b else a
set_option maxHeartbeats 1000000 in
theorem or2 (a b : Int) (blk cap : Nat) (w : World) (h0 : w.cell? ⟨blk, 0, none⟩ = some (.int .i64 a)) (h1 : w.cell? ⟨blk, 1, none⟩ = some (.int .i64 b)) : Calls Tryz.prog 72 #[.slice (some ⟨blk, 0, none⟩) 2 cap] w fun e w' => e = .returned (.int .i64 (orV a b)) ∧ w' = w := by
  go_enter Tryz.func72, Tryz.ntmps72
  go_wp2
  refine wp_loop_rounds 3 ?_
  rw [rounds_succ]
  go_wp2
  · go_ret
    refine ⟨?_, rfl⟩
    simp_all [orV]
  · rw [rounds_succ]
    go_wp2
    · go_ret
      refine ⟨?_, rfl⟩
      simp_all [orV]
    · rw [rounds_succ]
      go_wp2
      go_ret
      refine ⟨?_, rfl⟩
      simp_all [orV]
open Go.Sort Go.Shelf
def HidE (p : Prop) : Prop := p
theorem new_blk (W : World) (o : Obj) : (W.alloc o).heap[W.heap.size]? = some o := Array.getElem?_push_size
theorem new_cell0 (W : World) (a b : Value) : (W.alloc (.cells #[a, b] 3)).cell? ⟨W.heap.size, 0, none⟩ = some a := by
  rw [World.cell?, new_blk]; rfl
theorem new_cell1 (W : World) (a b : Value) : (W.alloc (.cells #[a, b] 3)).cell? ⟨W.heap.size, 1, none⟩ = some b := by
  rw [World.cell?, new_blk]; rfl
theorem two_push {α : Type} (h : Array α) (a b : α) : (h.push a).push b = h ++ #[a, b] := by
  rw [Array.push_eq_append, Array.push_eq_append, Array.append_assoc]; rfl
theorem two_at0 {α : Type} (h : Array α) (a b : α) : (h ++ #[a, b])[h.size]? = some a := by
  rw [Array.getElem?_append_right (Nat.le_refl _)]; simp
theorem two_at1 {α : Type} (h : Array α) (a b : α) : (h ++ #[a, b])[h.size + 1]? = some b := by
  rw [Array.getElem?_append_right (by omega)]; simp
set_option maxHeartbeats 1000000 in
theorem closureC (x y : ByteArray × Int) (W : World) : Calls Tryz.prog 71 #[.agg #[.string x.1, .int .i64 x.2], .agg #[.string y.1, .int .i64 y.2]] W fun e w' => e = .returned (.int .i64 (orV (cmpS x.1 y.1) (Lib.compareInt x.2 y.2))) ∧ ∃ q os', w' = grow (W.drewN q) os' := by
  go_enter Tryz.func71, Tryz.ntmps71
  go_wp2_with (first | (go_at_call 73; refine (compare_s _ _ _).mono ?_; rintro e w' ⟨rfl, rfl⟩) | (go_at_call 74; refine (compare_i _ _ _).mono ?_; rintro e w' ⟨rfl, rfl⟩))
  refine wp_region_still_tail 10 (show Tryz.prog.follows .mixedOrders = true by kernel_rfl) (by kernel_rfl) ?_
  simp only [List.take_succ_cons, List.take_zero, List.drop_succ_cons, List.drop_zero]
  generalize hW1 : World.mk _ _ _ _ _ = W1
  have e1 : W1 = grow (W.drewN 1) #[.cells #[Value.string x.1, Value.int IntKind.i64 x.2] 51, .cells #[Value.string y.1, Value.int IntKind.i64 y.2] 51] := by
    rw [← hW1]
    show World.mk ((W.heap.push _).push _) _ _ _ _ = World.mk (W.heap ++ #[_, _]) _ _ _ _
    rw [two_push]
    rfl
  have b0 : W1.heap[W.heap.size]? = some (.cells #[Value.string x.1, Value.int IntKind.i64 x.2] 51) := by rw [e1]; exact two_at0 _ _ _
  have b1 : W1.heap[W.heap.size + 1]? = some (.cells #[Value.string y.1, Value.int IntKind.i64 y.2] 51) := by rw [e1]; exact two_at1 _ _ _
  clear hW1
  replace e1 : HidE _ := e1
  have c0 : W1.cell? ⟨W.heap.size, 0, none⟩ = some (.string x.1) := by simp [World.cell?, b0]
  have c1 : W1.cell? ⟨W.heap.size, 1, none⟩ = some (.int .i64 x.2) := by simp [World.cell?, b0]
  have c2 : W1.cell? ⟨W.heap.size + 1, 0, none⟩ = some (.string y.1) := by simp [World.cell?, b1]
  have c3 : W1.cell? ⟨W.heap.size + 1, 1, none⟩ = some (.int .i64 y.2) := by simp [World.cell?, b1]
  clear b0 b1
  repeat still_step
  still_call (compare_s x.1 y.1 W1)
  repeat still_step
  still_call (compare_i x.2 y.2 W1)
  repeat still_step
  refine wpStill_nil ?_
  go_wp2_with (go_at_call 72; refine (or2 (cmpS x.1 y.1) (Lib.compareInt x.2 y.2) W1.heap.size _ _ (new_cell0 _ _ _) (new_cell1 _ _ _)).mono ?_; rintro e w' ⟨rfl, rfl⟩)
  go_ret
  refine ⟨rfl, ?_⟩
  have e2 : W1 = _ := e1
  rw [alloc_eq_grow, e2, grow_grow]
  exact ⟨1, _, rfl⟩
end Go.Proofs.YtnoeabmpdjpfaaaGreatDoor.Vc

/-
  DERIVED: THE SHELF's CONTRACTS AT THIS DUMP, IN PLAIN WORDS (tools/lay-plain.mjs out of 'TryzShelf.lean', which tools/lay-shelf.mjs wrote): THE SAME DECLARATIONS UNDER THE SAME NAMES: 'import', 'namespace', 'open', 'def', 'theorem' AND NOTHING ELSE: no command of the shelf's: FOR A HAND-IN. Each laying: the table of numbers ('.._ren') and one theorem, a field a fact of the dump's own or the kernel's comparison; each contract: ONE APPLICATION.
-/
namespace Go.Proofs
open Go.Shelf
def Tryz.sortC_ren : Go.Shelf.Ren := ⟨fun | 6 => 70 | 15 => 79 | 14 => 89 | 28 => 101 | 29 => 102 | 20 => 111 | 21 => 112 | 22 => 113 | 23 => 114 | 24 => 115 | 25 => 116 | 26 => 117 | 27 => 118 | 46 => 138 | 47 => 120 | 48 => 121 | 49 => 139 | 50 => 140 | 57 => 147 | n => n, fun | 22 => 47 | 24 => 51 | 25 => 139 | 3 => 3 | 39 => 144 | 0 => 0 | 53 => 157 | 55 => 159 | 4 => 4 | 46 => 151 | 45 => 150 | 50 => 114 | 5 => 5 | 9 => 9 | 66 => 174 | 70 => 178 | 76 => 188 | 77 => 189 | n => n, fun | n => n⟩
theorem Tryz.sortC : Go.Proofs.SlLaysF0.n6 Tryz.prog Tryz.sortC_ren := {
  mixed := by kernel_rfl
  f6 := ⟨Tryz.f70.name, by decide, Tryz.func70.trans (congrArg some (by kernel_rfl))⟩
  f14 := ⟨Tryz.f89.name, by decide, Tryz.func89.trans (congrArg some (by kernel_rfl))⟩
  f15 := Tryz.func79.trans (congrArg some (by kernel_rfl))
  f20 := ⟨Tryz.f111.name, by decide, Tryz.func111.trans (congrArg some (by kernel_rfl))⟩
  f21 := ⟨Tryz.f112.name, by decide, Tryz.func112.trans (congrArg some (by kernel_rfl))⟩
  f22 := ⟨Tryz.f113.name, by decide, Tryz.func113.trans (congrArg some (by kernel_rfl))⟩
  f23 := ⟨Tryz.f114.name, by decide, Tryz.func114.trans (congrArg some (by kernel_rfl))⟩
  f24 := ⟨Tryz.f115.name, by decide, Tryz.func115.trans (congrArg some (by kernel_rfl))⟩
  f25 := ⟨Tryz.f116.name, by decide, Tryz.func116.trans (congrArg some (by kernel_rfl))⟩
  f26 := ⟨Tryz.f117.name, by decide, Tryz.func117.trans (congrArg some (by kernel_rfl))⟩
  f27 := ⟨Tryz.f118.name, by decide, Tryz.func118.trans (congrArg some (by kernel_rfl))⟩
  f28 := Tryz.func101.trans (congrArg some (by kernel_rfl))
  f29 := Tryz.func102.trans (congrArg some (by kernel_rfl))
  f46 := ⟨Tryz.f138.name, by decide, Tryz.func138.trans (congrArg some (by kernel_rfl))⟩
  f47 := Tryz.func120.trans (congrArg some (by kernel_rfl))
  f48 := Tryz.func121.trans (congrArg some (by kernel_rfl))
  f49 := ⟨Tryz.f139.name, by decide, Tryz.func139.trans (congrArg some (by kernel_rfl))⟩
  f50 := ⟨Tryz.f140.name, by decide, Tryz.func140.trans (congrArg some (by kernel_rfl))⟩
  f57 := ⟨Tryz.f147.name, by decide, Tryz.func147.trans (congrArg some (by kernel_rfl))⟩
  t0 := Tryz.underlying0
  a0 := Tryz.isAgg0
  z0 := Tryz.sizeOf0
  v0 := Tryz.zeroValue0
  t3 := Tryz.underlying3
  a3 := Tryz.isAgg3
  z3 := Tryz.sizeOf3
  v3 := Tryz.zeroValue3
  t4 := Tryz.underlying4
  a4 := Tryz.isAgg4
  z4 := Tryz.sizeOf4
  v4 := Tryz.zeroValue4
  t5 := Tryz.underlying5
  a5 := Tryz.isAgg5
  z5 := Tryz.sizeOf5
  v5 := Tryz.zeroValue5
  t9 := Tryz.underlying9
  a9 := Tryz.isAgg9
  z9 := Tryz.sizeOf9
  v9 := Tryz.zeroValue9
  t22 := Tryz.underlying47
  a22 := Tryz.isAgg47
  z22 := Tryz.sizeOf47
  v22 := Tryz.zeroValue47
  t25 := Tryz.underlying139
  a25 := Tryz.isAgg139
  z25 := Tryz.sizeOf139
  v25 := Tryz.zeroValue139
  t39 := Tryz.underlying144
  a39 := Tryz.isAgg144
  z39 := Tryz.sizeOf144
  v39 := Tryz.zeroValue144
  t45 := Tryz.underlying150
  a45 := Tryz.isAgg150
  z45 := Tryz.sizeOf150
  v45 := Tryz.zeroValue150
  t46 := Tryz.underlying151
  a46 := Tryz.isAgg151
  z46 := Tryz.sizeOf151
  v46 := Tryz.zeroValue151
  t50 := Tryz.underlying114
  a50 := Tryz.isAgg114
  z50 := Tryz.sizeOf114
  v50 := Tryz.zeroValue114
  t53 := Tryz.underlying157
  a53 := Tryz.isAgg157
  z53 := Tryz.sizeOf157
  v53 := Tryz.zeroValue157
  t55 := Tryz.underlying159
  a55 := Tryz.isAgg159
  z55 := Tryz.sizeOf159
  v55 := Tryz.zeroValue159
  t66 := Tryz.underlying174
  a66 := Tryz.isAgg174
  z66 := Tryz.sizeOf174
  v66 := Tryz.zeroValue174
  t70 := Tryz.underlying178
  a70 := Tryz.isAgg178
  z70 := Tryz.sizeOf178
  v70 := Tryz.zeroValue178
  t76 := Tryz.underlying188
  a76 := Tryz.isAgg188
  z76 := Tryz.sizeOf188
  v76 := Tryz.zeroValue188
  t77 := Tryz.underlying189
  a77 := Tryz.isAgg189
  z77 := Tryz.sizeOf189
  v77 := Tryz.zeroValue189 }
end Go.Proofs

/- Children are put in order: the kit's contract of slices.SortFunc at structs, as a row of one's own memory. -/
set_option linter.unusedVariables false
set_option linter.unusedSimpArgs false
set_option maxRecDepth 100000
namespace Go.Proofs.YtnoeabmpdjpfaaaGreatDoor.Vc
open Go Go.Proofs Go.Sort Go.Shelf Go.Lib

instance : Inhabited Child := ⟨zChild⟩
def encC (c : Child) : List Value := [.string c.name, .int .i64 c.node]
def cfC (x y : Child) : Int := orV (cmpS x.name y.name) (Lib.compareInt x.node y.node)
/-- By name, then by number. -/
def ltC (x y : Child) : Bool := ltOf cfC x y
theorem ltC_iff (x y : Child) : ltC x y = true ↔ x.name.data.toList < y.name.data.toList ∨ (x.name = y.name ∧ x.node < y.node) := by
  have hd : ∀ b : ByteArray, b.toList = b.data.toList := fun b => ByteArray.toList_eq b
  have hs : cmpS x.name y.name = if x.name.data.toList < y.name.data.toList then -1 else if x.name = y.name then 0 else 1 := by
    unfold cmpS
    rw [bytesLess_eq, hd, hd]
    simp only [decide_eq_true_eq]
  show decide (orV (cmpS x.name y.name) (Lib.compareInt x.node y.node) < 0) = true ↔ _
  rw [hs, decide_eq_true_iff]
  by_cases h1 : x.name.data.toList < y.name.data.toList
  · rw [if_pos h1]
    refine ⟨fun _ => .inl h1, fun _ => ?_⟩
    rw [orV, if_neg (by decide)]
    decide
  · have hc : Lib.compareInt x.node y.node < 0 ↔ x.node < y.node := by
      unfold Lib.compareInt
      (repeat' split) <;> simp_all <;> omega
    by_cases h2 : x.name = y.name
    · rw [if_neg h1, if_pos h2, orV, if_pos rfl, hc]
      exact ⟨fun h => .inr ⟨h2, h⟩, fun h => h.elim (fun h => absurd h h1) (·.2)⟩
    · rw [if_neg h1, if_neg h2, orV, if_neg (by decide)]
      exact ⟨fun h => absurd h (by decide), fun h => h.elim (fun h => absurd h h1) fun h => absurd h.1 h2⟩
theorem bytes_tri (a b : ByteArray) : a.data.toList < b.data.toList ∨ a = b ∨ b.data.toList < a.data.toList := by
  by_cases h1 : a.data.toList < b.data.toList
  · exact .inl h1
  · by_cases h2 : b.data.toList < a.data.toList
    · exact .inr (.inr h2)
    · refine .inr (.inl ?_)
      have this : a.data.toList = b.data.toList := List.le_antisymm (List.not_lt.1 h2) (List.not_lt.1 h1)
      exact ByteArray.ext (Array.toList_inj.1 this)
theorem ltC_irrefl (x : Child) : ltC x x = false := by
  rw [Bool.eq_false_iff]
  intro h
  rcases (ltC_iff x x).1 h with h | ⟨_, h⟩
  · exact List.lt_irrefl _ h
  · omega
theorem ltC_trans (x y z : Child) (h1 : ltC x y = true) (h2 : ltC y z = true) : ltC x z = true := by
  rw [ltC_iff] at *
  rcases h1 with h1 | ⟨e1, h1⟩ <;> rcases h2 with h2 | ⟨e2, h2⟩
  · exact .inl (List.lt_trans h1 h2)
  · exact .inl (e2 ▸ h1)
  · exact .inl (e1 ▸ h2)
  · exact .inr ⟨e1.trans e2, by omega⟩
theorem ltC_anti (x y : Child) (h1 : ltC x y = false) (h2 : ltC y x = false) : x = y := by
  have g1 := (not_congr (ltC_iff x y)).1 (by simp [h1])
  have g2 := (not_congr (ltC_iff y x)).1 (by simp [h2])
  rcases bytes_tri x.name y.name with h | h | h
  · exact absurd (.inl h) g1
  · have : x.node = y.node := by
      rcases Int.lt_trichotomy x.node y.node with k | k | k
      · exact absurd (.inr ⟨h, k⟩) g1
      · exact k
      · exact absurd (.inr ⟨h.symm, k⟩) g2
    cases x; cases y
    simp_all
  · exact absurd (.inl h) g2
theorem swoC : SWO (ltOf cfC) where
  irrefl := ltC_irrefl
  trans := ltC_trans
  ntrans x y z h1 h2 := by
    show ltC x z = false
    have h1 : ltC x y = false := h1
    have h2 : ltC y z = false := h2
    rw [Bool.eq_false_iff]
    intro h
    cases h3 : ltC y x with
    | true => rw [ltC_trans y x z h3 h] at h2; cases h2
    | false =>
      have := ltC_anti x y h1 h3
      subst this
      rw [h] at h2; cases h2
def sortCh (cs : List Child) : List Child := cs.mergeSort fun x y => !(ltOf cfC) y x
theorem sortCh_perm (cs : List Child) : (sortCh cs).Perm cs := List.mergeSort_perm _ _
theorem sortCh_len (cs : List Child) : (sortCh cs).length = cs.length := (sortCh_perm cs).length_eq
theorem cmpLaysC (blk off size : Nat) (w : World) : CmpLays Tryz.prog 71 #[] encC 2 cfC blk off size w :=
  fun _ _ _ _ x y => closureC (x.name, x.node) (y.name, y.node) _

theorem flat_C (c : Child) : GV.flat (gChild c) = encC c := rfl
theorem els_C (cs : List Child) : Els 2 (cs.map gChild) := fun x hx => by
  obtain ⟨c, _, rfl⟩ := List.mem_map.1 hx
  exact ⟨gChild_ok c, gChild_sz c⟩
/-- The cells of these, one behind the other. -/
theorem flats_C (cs : List Child) {j : Nat} (hj : j < cs.length * 2) : (flats (cs.map gChild))[j]? = some (flatK encC 2 cs.toArray)[j]! := by
  have hi : j / 2 < cs.length := by omega
  have hx : (cs.map gChild)[j / 2]? = some (gChild cs[j / 2]) := by rw [List.getElem?_map, List.getElem?_eq_getElem hi]; rfl
  have hm : j % 2 < (encC cs[j / 2]).length := by show j % 2 < 2; omega
  have h := flats_at (els_C cs) hx (j % 2) _ (by rw [flat_C, List.getElem?_eq_getElem hm])
  rw [show j / 2 * 2 + j % 2 = j by omega] at h
  rw [h, get_flatK encC 2 cs.toArray j (by simpa using hj)]
  have e1 : cs.toArray[j / 2]! = cs[j / 2] := by
    rw [getElem!_pos cs.toArray (j / 2) (by simpa using hi)]
    simp
  rw [e1, getElem!_pos (encC cs[j / 2]) (j % 2) hm]
end Go.Proofs.YtnoeabmpdjpfaaaGreatDoor.Vc

/- slices.SortFunc at children, of one's own memory. -/
set_option linter.unusedVariables false
set_option linter.unusedSimpArgs false
set_option maxRecDepth 100000
namespace Go.Proofs.YtnoeabmpdjpfaaaGreatDoor.Vc
open Go Go.Proofs Go.Sort Go.Shelf Go.Lib

theorem sortC_spec (w : World) (v : Value) (cs : List Child) (m : PH) (hS : SlO m v 51 2 (cs.map gChild)) (hl : cs.length ≤ 1099511627776) :
    Spec Tryz.prog 70 [v, .func (.func 71) #[] #[]] m w fun rs m' => rs = [] ∧ SlO m' v 51 2 ((sortCh cs).map gChild) := by
  intro hm
  by_cases h0 : cs = []
  · subst h0
    have key : ∀ p cap, v = .slice p 0 cap → Calls Tryz.prog 70 #[v, .func (.func 71) #[] #[]] w fun e w' => e = .returned (.tuple #[]) ∧ w' = w := fun p cap e => by
      rw [e]; exact AnyF.slices_SortFunc_none Tryz.sortC p cap _ w
    have hv : ∃ p cap, v = .slice p 0 cap := by
      obtain ⟨_, ⟨h1, _⟩ | ⟨a, c, h1, _⟩⟩ := hS
      · exact ⟨none, 0, h1⟩
      · exact ⟨some a, c, h1⟩
    obtain ⟨p, cap, e⟩ := hv
    refine (key p cap e).mono fun e w' ⟨he, hw⟩ => ?_
    subst hw
    exact ⟨[], m, he, by simp, ⟨rfl, by simpa [sortCh] using hS⟩, hm, fun b hb => .inl hb, Kept.refl m w'⟩
  · obtain ⟨hels, ⟨_, h1⟩ | ⟨⟨b, o, sp⟩, c, rfl, hc, hs⟩⟩ := hS
    · exact absurd (by simpa using h1) h0
    have hlen : 0 < cs.length := List.length_pos_iff.2 h0
    rw [List.length_map] at hc
    obtain ⟨cl, hsp, hsz, hb, hrow⟩ := hs (by omega)
    simp only at hsp hsz hb hrow
    subst hsp
    rw [List.length_map]
    have hwb := hm b _ hb
    have hblk : b < w.heap.size := by
      rw [Array.getElem?_eq_some_iff] at hwb
      exact hwb.1
    have hH : HoldsK encC 2 w b o cs.toArray := fun j hj => by
      have hj' : j < cs.length * 2 := by simpa using hj
      have hcell := hrow j _ (flats_C cs hj')
      refine ⟨?_, ?_⟩
      · simp only [World.cell?, hwb]
        simpa using hcell
      · simp [World.frozen?, hwb]
    have hcon := AnyQ.slices_SortFunc Tryz.sortC 2 Tryz.isAgg51 Tryz.sizeOf51 encC (fun _ => rfl) (fun x v hv => by simp [encC] at hv; rcases hv with rfl | rfl <;> rfl) cfC swoC 71 #[] b o c cs.toArray w (enters_of Tryz.func71 (by kernel_rfl) rfl) (cmpLaysC b o _ w) hH hblk (by simp; omega)
    have hcon : Calls Tryz.prog 70 #[.slice (some ⟨b, o, none⟩) cs.length c, .func (.func 71) #[] #[]] w fun e w' => e = .returned (.tuple #[]) ∧ ∃ d' n os, PermIn 0 cs.toArray.size cs.toArray d' ∧ SortedIn (ltOf cfC) 0 cs.toArray.size d' ∧ w' = sortWorldK encC 2 w b o n d' os := hcon
    refine hcon.mono fun e w' ⟨he, d', n, os, hp, hso, hw⟩ => ?_
    have hd' : d'.toList = sortCh cs := by
      have := sorted_unique_holds swoC ltC_anti cs.toArray d' (by simpa using hp) (by simpa using hso)
      simpa [sortCh] using this
    have hsz' : d'.size = cs.length := by rw [← Array.length_toList, hd', sortCh_len]
    generalize hF : flatK encC 2 d' = F at *
    have hFs : F.size = cs.length * 2 := by rw [← hF, size_flatK, hsz']
    have hheap : w'.heap = (w.heap.modify b (onCells (putCells id o F))) ++ os := by rw [hw, ← hF]; rfl
    have hwb' : w'.heap[b]? = some (.cells (putCells id o F cl) 51 (0, 0)) := by
      rw [hheap, Array.getElem?_append_left (by simpa using hblk), Array.getElem?_modify, if_pos rfl, hwb]
      rfl
    refine ⟨[], one b (.cells (putCells id o F cl) 51 (0, 0)), he, by simp, ⟨rfl, els_C _, .inr ⟨⟨b, o, none⟩, c, by rw [List.length_map, sortCh_len], by rw [List.length_map, sortCh_len]; exact hc, fun _ => ⟨putCells id o F cl, rfl, by simp only [putCells, Array.size_mapIdx]; exact hsz, by simp [one], fun j v hj => ?_⟩⟩⟩, fun k x hk => ?_, fun k hk => ?_, ?_⟩
    · have hjl : j < (sortCh cs).length * 2 := by
        have := List.getElem?_eq_some_iff.1 hj
        have h2 := this.1
        rw [flats_len (els_C _), List.length_map] at h2
        exact h2
      rw [flats_C _ hjl] at hj
      rw [sortCh_len] at hjl
      have hj : F[j]! = v := by
        rw [← hF, show d' = (sortCh cs).toArray by rw [← hd', Array.toArray_toList]]
        exact Option.some.inj hj
      have hcell : ∃ x, cl[o + j]? = some x := by
        have := hrow j _ (flats_C cs hjl)
        exact ⟨_, this⟩
      obtain ⟨x, hx⟩ := hcell
      simp only [putCells]
      rw [Array.getElem?_mapIdx, hx, Option.map_some, if_pos ⟨by omega, by omega⟩, show o + j - o = j by omega, hj]
      rfl
    · simp only [one] at hk
      split at hk
      · rename_i e; subst e; cases hk; exact hwb'
      · cases hk
    · simp only [one] at hk
      split at hk
      · rename_i e; subst e; exact .inl (by rw [hb]; simp)
      · exact absurd rfl hk
    · refine ⟨by rw [hw]; rfl, by rw [hw]; rfl, by rw [hw]; rfl, by rw [hheap]; simp, fun k hk hmk => ?_⟩
      have hkb : b ≠ k := fun e => by subst e; rw [hb] at hmk; cases hmk
      rw [hheap, Array.getElem?_append_left (by simpa using hk), Array.getElem?_modify, if_neg hkb]
end Go.Proofs.YtnoeabmpdjpfaaaGreatDoor.Vc

/- The code of some functions of the program, its types resolved: printed by a program of this claim. -/
set_option linter.unusedVariables false
set_option maxRecDepth 100000
namespace Go.Proofs.YtnoeabmpdjpfaaaGreatDoor.Vc
open Go Go.Proofs

abbrev f_tree_Tree_Children : Nat := 41
def c_tree_Tree_Children_L0 : Cd :=
 (.seq (.rg [⟨none, [(some 28, .nxt (.t 27)), (some 29, .ext (.t 28) 0)]⟩] [0, 5, 27, 29])
 (.seq (.ite (.t 29)
 .skip
 (.exit 0))
 (.block 1 (.seq (.rg [⟨none, [(some 30, .ent (.t 27)), (some 31, .ext (.t 30) 0), (some 6, .mv (.t 31))]⟩] [0, 5, 6, 27])
 (.rg [⟨none, [(some 32, .mv (.t 5)), (some 33, .mv (.t 0)), (some 34, .nilc (.t 33)), (some 35, .fldA (.t 34) 0 0), (some 36, .ld (.t 35) 1 false), (some 37, .mv (.t 6)), (some 38, .mlk (some .i64) (.t 36) (.t 37) (.pointer none) false), (some 39, .nilc (.t 38)), (some 40, .fldA (.t 39) 0 0), (some 41, .fldA (.t 40) 1 1), (some 42, .ld (.t 41) 1 false), (some 43, .mv (.t 6)), (some 44, .bld (.c (.s (.string ⟨#[]⟩)) (.c (.s (.int .i64 0)) .u)) [(0, (.t 42)), (1, (.t 43))]), (some 45, .bldS 51 2 (.c (.s (.string ⟨#[]⟩)) (.c (.s (.int .i64 0)) .u)) [(.t 44)]), (some 46, .app 51 2 24 (.c (.s (.string ⟨#[]⟩)) (.c (.s (.int .i64 0)) .u)) (.t 32) (.t 45)), (some 5, .mv (.t 46))]⟩] [0, 5, 27])))))
def c_tree_Tree_Children : Cd :=
 (.seq (.rg [⟨none, [(some 4, .mv (.c (.slice none 0 0)))]⟩] [0, 1])
 (.seq (.seq (.rg [⟨none, [(some 7, .mv (.t 0)), (some 8, .call 30 [(.t 7)]), (some 9, .mv (.t 8))]⟩, ⟨some (9, false), [(some 10, .mv (.t 0)), (some 11, .nilc (.t 10)), (some 12, .fldA (.t 11) 0 0), (some 13, .ld (.t 12) 1 false), (some 14, .mv (.t 1)), (some 15, .mlk (some .i64) (.t 13) (.t 14) (.pointer none) false), (some 16, .eqA false 86 (.t 15) (.c (.pointer none)))]⟩, ⟨none, [(some 17, .pick (.t 9) (.c (.bool true)) (.t 16))]⟩] [0, 1, 17])
 (.ite (.t 17)
 (.seq (.rg [⟨none, [(some 4, .mv (.c (.slice none 0 0)))]⟩] [4])
 .ret)
 .skip))
 (.seq (.rg [⟨none, [(some 5, .mv (.c (.slice none 0 0)))]⟩] [0, 1, 5])
 (.seq (.seq (.rg [⟨none, [(some 18, .mv (.t 0)), (some 19, .nilc (.t 18)), (some 20, .fldA (.t 19) 0 0), (some 21, .ld (.t 20) 1 false), (some 22, .mv (.t 1)), (some 23, .mlk (some .i64) (.t 21) (.t 22) (.pointer none) false), (some 24, .nilc (.t 23)), (some 25, .fldA (.t 24) 2 3), (some 26, .ld (.t 25) 1 false), (some 27, .rng (some .i64) (.t 26))]⟩] [0, 5, 27])
 (.block 0 (.loop c_tree_Tree_Children_L0)))
 (.seq (.rg [⟨none, [(some 47, .mv (.t 5)), (some 48, .call 70 [(.t 47), (.c (.func (.func 71) #[] #[]))])]⟩] [5])
 (.seq (.rg [⟨none, [(some 49, .mv (.t 5)), (some 4, .mv (.t 49))]⟩] [4])
 .ret))))))
theorem k_tree_Tree_Children : Ok Tryz.prog 41 c_tree_Tree_Children 50 [] [.tmp 4] := Ok.mk' Tryz.func41 (by kernel_rfl) (by kernel_rfl) (by kernel_rfl)

end Go.Proofs.YtnoeabmpdjpfaaaGreatDoor.Vc

/- Children: the nodes beneath a node, by name and number. -/
set_option linter.unusedVariables false
set_option linter.unusedSimpArgs false
set_option maxRecDepth 100000
namespace Go.Proofs.YtnoeabmpdjpfaaaGreatDoor.Vc
open Go Go.Proofs

def childOf (T : PT) (c : Int) : Child := ⟨((T.get c).map fun y => y.name).getD ⟨#[]⟩, c⟩
theorem childOf_get {T : PT} {c : Int} {y : PN} (h : T.get c = some y) : childOf T c = ⟨y.name, c⟩ := by rw [childOf, h]; rfl
theorem not_ltC {x y : Child} (h : (!(ltOf cfC) y x) = true) : ltC y x = false := by
  unfold ltC
  simpa using h
theorem sortCh_sorted (a : List Child) : (sortCh a).Pairwise fun x y => (!(ltOf cfC) y x) = true := by
  refine List.pairwise_mergeSort (le := fun x y => !(ltOf cfC) y x) (fun x y z h1 h2 => ?_) (fun x y => ?_) a
  · have := swoC.ntrans z y x (not_ltC h2) (not_ltC h1)
    simpa using this
  · cases h1 : (ltOf cfC) y x with
    | false => simp
    | true =>
      cases h2 : (ltOf cfC) x y with
      | false => simp
      | true =>
        have := swoC.trans x y x h2 h1
        rw [swoC.irrefl] at this; cases this
theorem sortCh_uniq {a b : List Child} (h : a.Perm b) : sortCh a = sortCh b := by
  refine List.Perm.eq_of_pairwise (le := fun x y => (!(ltOf cfC) y x) = true) ?_ (sortCh_sorted a) (sortCh_sorted b) ((sortCh_perm a).trans (h.trans (sortCh_perm b).symm))
  intro x y _ _ h1 h2
  exact ltC_anti x y (not_ltC h2) (not_ltC h1)
/-- What Children tells. -/
def childA (T : PT) (n : Int) : List Child := sortCh (((T.get n).map PN.kids).getD [] |>.map (childOf T))
theorem childA_none {T : PT} {n : Int} (h : T.get n = none) : childA T n = [] := by rw [childA, h]; simp [sortCh]
theorem childA_get {T : PT} {n : Int} {x : PN} (h : T.get n = some x) : childA T n = sortCh (x.kids.map (childOf T)) := by rw [childA, h]; rfl

theorem Children_spec {w : World} {u : PH} {L : Lay} {T : PT} (hu : u.le w) (hT : TM u L T) (n : Int) (hkd : T.kidsOk) (hg : VGood T.view) (hl : T.nodes.length ≤ 1099511627776) :
    Spec Tryz.prog f_tree_Tree_Children [ptr (L .t), .int .i64 n] PH.no w fun rs m' => ∃ v, rs = [.s v] ∧ SlO m' v 51 2 ((childA T n).map gChild) := by
  refine spec_of k_tree_Tree_Children [.g (.s (ptr (L .t))), .g (.s (.int .i64 n))] (by simp) (by simp [AV.ok, GV.ok, Value.oneCell', ptr]) ?_
  have hk : ∀ {l : List PH}, KN (⟨Tryz.prog, 50, w, PH.no⟩ : Ctx).u0 l u := kn_u hu
  simp (maxSteps := 2000000) only [c_tree_Tree_Children, vc_seq, vc_rg, thenQ_n, kKeep_eq, segs_nil, segs_n, ops_nil, ops_cons, vcOp, ev, look, put_mk, keep_mk, keepL, Value.oneCell', cond_true, Nat.reduceEqDiff, ↓reduceIte, reduceCtorEq, Nat.zero_add, initF, initP, ptr]
  refine call_is _ [.s (.bool false)] rfl rfl (fun w' vs hv hw => ?_) ?_
  · obtain ⟨vs, rfl, _, hv⟩ := argsV_g hv
    obtain rfl := argsV_nil hv
    intro _
    exact none_spec (fun b o h => hw b o (by rw [u0_no]; exact hu b o h)) hT
  simp (maxSteps := 2000000) only [retS, segs_g, ops_nil, ops_cons, vcOp, ev, look, put_mk, ↓reduceIte, reduceCtorEq, Nat.add_zero, ↓br_ff]
  refine ld_of _ (hT.s_map hk) rfl ?_
  simp (maxSteps := 2000000) only [ops_cons, vcOp, ev, look, put_mk, Nat.reduceEqDiff, ↓reduceIte, reduceCtorEq]
  refine hT.lk hk n ?_
  cases hx : T.get n with
  | none =>
    simp (maxSteps := 2000000) only [ops_cons, vcOp, ev, look, put_mk, Value.oneCell', cond_true, ↓reduceIte, nptr_none]
    refine eq_of eqNode0 ?_
    simp (maxSteps := 2000000) only [vc_ret, vc_seq, vc_rg, vc_ite, thenQ_n, thenQ_r, kKeep_eq, finQ_r, segs_nil, segs_n, ops_nil, ops_cons, vcOp, ev, look, put_mk, keep_mk, keepL, Value.oneCell', cond_true, Nat.reduceEqDiff, ↓reduceIte, reduceCtorEq, ↓br_tt, ↓br_ft, Bool.bne_false]
    exact fin_m (rs := [.s (.slice none 0 0)]) PH.no rfl (fun _ _ h => h) ⟨_, rfl, by rw [childA_none hx]; exact ⟨fun x hx => by simp at hx, .inl ⟨rfl, rfl⟩⟩⟩
  | some x =>
    simp (maxSteps := 2000000) only [ops_cons, vcOp, ev, look, put_mk, Value.oneCell', cond_true, ↓reduceIte, nptr_some]
    refine eq_of (eqNode _) ?_
    simp (maxSteps := 2000000) only [vc_skip, vc_seq, vc_rg, vc_ite, thenQ_n, kKeep_eq, segs_nil, segs_n, ops_nil, ops_cons, vcOp, ev, look, put_mk, keep_mk, keepL, Value.oneCell', cond_true, Nat.reduceEqDiff, ↓reduceIte, reduceCtorEq, Nat.add_zero, ↓br_ft, Bool.bne_false]
    refine ld_of _ (hT.s_map hk) rfl ?_
    simp (maxSteps := 2000000) only [ops_cons, vcOp, ev, look, put_mk, Nat.reduceEqDiff, ↓reduceIte, reduceCtorEq]
    refine hT.lk hk n ?_
    rw [hx]
    simp (maxSteps := 2000000) only [ops_cons, vcOp, ev, look, put_mk, ↓reduceIte, Nat.zero_add, nptr_some]
    refine ld_of _ (hT.s_node hk hx).2.2.2.1 rfl ?_
    simp (maxSteps := 2000000) only [ops_cons, vcOp, ev, look, put_mk, ↓reduceIte]
    obtain ⟨ok, idsV, h1, h2⟩ := hT.at (.kb n) ⟨x, hx⟩
    have hmap : MapI (some .i64) ok (rawK x.kids) := h2 x hx
    have hsee : ∀ {m : PH}, SeenO ⟨Tryz.prog, 50, w, PH.no⟩ [] m (L (.kb n)) ok := fun {m} => kn_seen hk h1
    have hkf := kids_few hkd hx
    refine ⟨ok, _, hsee, hmap, fun r it hit hdr => ?_⟩
    simp (maxSteps := 2000000) only [uni_no_r, vc_block, thenQ_n, kKeep_eq, segs_nil, ops_nil, look, put_mk, keep_mk, keepL, Nat.reduceEqDiff, ↓reduceIte, reduceCtorEq]
    refine vc_loop (ι := List Int × Value × PH × Obj) (fun q => ⟨[(0, .g (.s (.pointer (some ⟨L .t, 0, none⟩)))), (5, .g (.s q.2.1)), (27, .g (.s (.pointer (some ⟨r, 0, none⟩))))], [], [], uni (one r q.2.2.2) q.2.2.1⟩)
      (fun q => IterM q.2.2.2 ok (L (.kb n)) (rawK q.1) ∧ SlO q.2.2.1 q.2.1 51 2 ((q.1.map (childOf T)).map gChild) ∧ dis (one r q.2.2.2) q.2.2.1 ∧ ∀ c ∈ q.1, c ∈ x.kids) (fun q => x.kids.length - q.1.length) ([], .slice none 0 0, PH.no, it) ⟨hit, ⟨fun x hx => by simp at hx, .inl ⟨rfl, by simp⟩⟩, dis_no_r _, by simp⟩ (ge_of ?_ ?_ rfl rfl ?_) ?_
    · simp [frIn, look]
    · simp [pvIn, look]
    · simp [uni_no_r]
    clear hit hdr
    rintro ⟨ks, v, mv, it⟩ ⟨hI, hS, hd, hsub⟩
    simp only at hI hS hd hsub
    have hlk := iter_nodup hI hmap (hkd.nod n x hx)
    generalize hQ : loopQ _ _ _ _ _ = Q
    simp (maxSteps := 2000000) only [c_tree_Tree_Children_L0, vc_seq, vc_rg, segs_n, ops_cons, vcOp, ev, look, Nat.reduceEqDiff, ↓reduceIte, reduceCtorEq, gChild_zero]
    refine ⟨it, _, ok, _, _, _, uni_one_self _ _ _, hsee, hmap, hI, fun hp => ?_, fun p it' hp hps hit' => ?_⟩
    · simp (maxSteps := 2000000) only [List.getElem?_cons_zero, vc_exit, vc_seq, vc_ite, thenQ_n, thenQ_e, kKeep_eq, segs_nil, ops_nil, ops_cons, vcOp, ev, look, put_mk, keep_mk, keepL, Nat.reduceEqDiff, ↓reduceIte, reduceCtorEq, ↓br_ft]
      subst hQ
      simp (maxSteps := 2000000) only [vc_seq, vc_rg, thenQ_n, blockQ_e, loopQ_e, segs_n, ops_cons, vcOp, ev, look, put_mk, ↓reduceIte, reduceCtorEq]
      have hk2 := rawK_perm hp
      refine call_with mv (one r it) (dOk_spec rfl) rfl (uni_comm hd) (dis_comm hd) (Q := fun rs m' => rs = [] ∧ SlO m' v 51 2 ((sortCh (ks.map (childOf T))).map gChild)) (fun w' vs hvv _ _ => ?_) fun rs m4 _ hq hd4 => ?_
      · obtain ⟨vs, rfl, _, hvv⟩ := argsV_g hvv
        obtain ⟨vs, rfl, _, hvv⟩ := argsV_g hvv
        obtain rfl := argsV_nil hvv
        exact sortC_spec w' v _ mv hS (by rw [List.length_map]; omega)
      obtain ⟨rfl, hS4⟩ := hq
      simp (maxSteps := 2000000) only [retS, vc_ret, vc_seq, vc_rg, thenQ_n, kKeep_eq, finQ_r, segs_nil, segs_n, ops_nil, ops_cons, vcOp, ev, look, put_mk, keep_mk, keepL, Nat.reduceEqDiff, ↓reduceIte, reduceCtorEq]
      exact fin_m (rs := [.s v]) m4 rfl (sub_uni_l _ _) ⟨v, rfl, by rw [childA_get hx, ← sortCh_uniq (hk2.map _)]; exact hS4⟩
    · obtain ⟨c, hc, rfl⟩ := mem_rawK hp
      obtain ⟨hc0, y, hy⟩ := kids_get hkd hg hx c hc
      have hit2 : IterM it' ok (L (.kb n)) (rawK (ks ++ [c])) := by
        have e : rawK (ks ++ [c]) = rawK ks ++ [(.int .i64 c, .int .i64 1)] := by simp [rawK]
        rw [e]; exact hit'
      have hlen2 := iter_nodup hit2 hmap (hkd.nod n x hx)
      simp only [List.length_append, List.length_cons, List.length_nil] at hlen2
      simp (maxSteps := 2000000) only [List.getElem?_cons_zero, vc_skip, vc_seq, vc_block, vc_rg, vc_ite, thenQ_n, kKeep_eq, segs_nil, segs_n, ops_nil, ops_cons, vcOp, ev, look, put_mk, keep_mk, keepL, Nat.reduceEqDiff, ↓reduceIte, reduceCtorEq, ↓br_tt]
      refine ⟨it', _, ok, _, _, _, _, .inl (upd_self _ _ _), hsee, hmap, hit', ?_⟩
      simp (maxSteps := 2000000) only [List.getElem?_cons_zero, vc_rg, thenQ_n, kKeep_eq, segs_nil, segs_n, ops_nil, ops_cons, vcOp, ev, look, put_mk, keep_mk, keepL, Nat.reduceEqDiff, ↓reduceIte, reduceCtorEq, Nat.add_zero]
      rw [uni_one_upd]
      refine ld_of _ (hT.s_map hk) rfl ?_
      simp (maxSteps := 2000000) only [ops_cons, vcOp, ev, look, put_mk, Nat.reduceEqDiff, ↓reduceIte, reduceCtorEq]
      refine hT.lk hk c ?_
      rw [hy]
      simp (maxSteps := 2000000) only [ops_cons, vcOp, ev, look, put_mk, ↓reduceIte, Nat.zero_add, Nat.add_zero, nptr_some]
      refine ld_of _ (hT.s_node hk hy).2.1 rfl ?_
      simp (maxSteps := 2000000) only [ops_cons, vcOp, ev, evL, gvL, look, updL, put_mk, rowE, GV.getT, GV.same, Nat.reduceEqDiff, ↓reduceIte, reduceCtorEq, Nat.zero_add, Bool.and_true, Bool.true_and, true_and, and_true, List.map_cons, List.map_nil, Option.map_some, szAll, List.length_cons, List.length_nil, List.drop_zero, List.take_succ_cons, List.take_zero, GV.bldT, GV.bldC, same_int, gChild_sz, gChild_get0, gChild_set0, gChild_get1, gChild_set1]
      have hd' := dis_one_of (b := it') hd
      refine ⟨⟨rfl, rfl⟩, app_of rfl rfl mv (one r it') ((ks.map (childOf T)).map gChild) hS (uni_comm hd') (dis_comm hd') (by simp only [List.length_map, List.length_cons, List.length_nil]; omega) fun v' u' hv' hs' hd2 => ?_⟩
      simp (maxSteps := 2000000) only [blockQ_n, kKeep_eq, segs_nil, ops_nil, ops_cons, vcOp, ev, look, put_mk, keep_mk, keepL, Nat.reduceEqDiff, ↓reduceIte, reduceCtorEq]
      subst hQ; simp only [loopQ_n]
      refine ⟨(ks ++ [c], v', u', it'), ⟨hit2, ?_, dis_comm hd2, fun d hd => ?_⟩, ?_, ge_of ?_ ?_ rfl rfl (uni_comm (dis_comm hd2))⟩
      · simp only [List.map_append, List.map_cons, List.map_nil, childOf_get hy]
        exact hs'
      · rcases List.mem_append.1 hd with h | h
        · exact hsub d h
        · simp only [List.mem_singleton] at h; subst h; exact hc
      · simp only [List.length_append, List.length_cons, List.length_nil]; omega
      · simp [frIn, look]
      · simp [pvIn, look]
end Go.Proofs.YtnoeabmpdjpfaaaGreatDoor.Vc

/- The code of some functions of the program, its types resolved: printed by a program of this claim. -/
set_option linter.unusedVariables false
set_option maxRecDepth 100000
namespace Go.Proofs.YtnoeabmpdjpfaaaGreatDoor.Vc
open Go Go.Proofs

abbrev f_path_List : Nat := 15
def c_path_List : Cd :=
 (.seq (.rg [⟨none, [(some 4, .mv (.c (.slice none 0 0))), (some 5, .mv (.c (.int .i64 0)))]⟩] [0, 1])
 (.seq (.rg [⟨none, [(some 9, .mv (.t 0)), (some 10, .mv (.t 1)), (some 11, .call 11 [(.t 9), (.t 10)]), (some 8, .mv (.t 11)), (some 12, .ext (.t 8) 0), (some 13, .ext (.t 8) 1), (some 6, .mv (.t 12)), (some 7, .mv (.t 13))]⟩] [0, 6, 7])
 (.seq (.seq (.rg [⟨none, [(some 14, .mv (.t 7)), (some 15, .bin .neq (.t 14) (.c (.int .i64 0)))]⟩] [0, 6, 7, 15])
 (.ite (.t 15)
 (.seq (.rg [⟨none, [(some 16, .mv (.t 7)), (some 4, .mv (.c (.slice none 0 0))), (some 5, .mv (.t 16))]⟩] [4, 5])
 .ret)
 .skip))
 (.seq (.rg [⟨none, [(some 17, .mv (.t 0)), (some 18, .mv (.t 6)), (some 19, .call 41 [(.t 17), (.t 18)]), (some 4, .mv (.t 19)), (some 5, .mv (.c (.int .i64 0)))]⟩] [4, 5])
 .ret))))
theorem k_path_List : Ok Tryz.prog 15 c_path_List 20 [] [.tmp 4, .tmp 5] := Ok.mk' Tryz.func15 (by kernel_rfl) (by kernel_rfl) (by kernel_rfl)

abbrev f_path_Attrs : Nat := 16
def c_path_Attrs : Cd :=
 (.seq (.rg [⟨none, [(some 4, .mv (.c (.slice none 0 0))), (some 5, .mv (.c (.int .i64 0)))]⟩] [0, 1])
 (.seq (.rg [⟨none, [(some 11, .mv (.t 0)), (some 12, .mv (.t 1)), (some 13, .call 11 [(.t 11), (.t 12)]), (some 10, .mv (.t 13)), (some 14, .ext (.t 10) 0), (some 15, .ext (.t 10) 1), (some 6, .mv (.t 14)), (some 7, .mv (.t 15))]⟩] [0, 6, 7])
 (.seq (.seq (.rg [⟨none, [(some 16, .mv (.t 7)), (some 17, .bin .neq (.t 16) (.c (.int .i64 0)))]⟩] [0, 6, 7, 17])
 (.ite (.t 17)
 (.seq (.rg [⟨none, [(some 18, .mv (.t 7)), (some 4, .mv (.c (.slice none 0 0))), (some 5, .mv (.t 18))]⟩] [4, 5])
 .ret)
 .skip))
 (.seq (.rg [⟨none, [(some 20, .mv (.t 0)), (some 21, .mv (.t 6)), (some 22, .call 12 [(.t 20), (.t 21)]), (some 19, .mv (.t 22)), (some 23, .ext (.t 19) 0), (some 24, .ext (.t 19) 1), (some 8, .new 32 (.c (.s (.int .i64 0)) (.c (.s (.int .i64 0)) (.c (.s (.string ⟨#[]⟩)) (.c (.s (.slice none 0 0)) .u))))), (none, .st (.t 8) (.t 23) 4), (some 9, .mv (.t 24))]⟩] [8])
 (.seq (.rg [⟨none, [(some 25, .fldA (.t 8) 3 3), (some 26, .ld (.t 25) 1 false), (some 4, .mv (.t 26)), (some 5, .mv (.c (.int .i64 0)))]⟩] [4, 5])
 .ret)))))
theorem k_path_Attrs : Ok Tryz.prog 16 c_path_Attrs 27 [] [.tmp 4, .tmp 5] := Ok.mk' Tryz.func16 (by kernel_rfl) (by kernel_rfl) (by kernel_rfl)

abbrev f_law20_PathOwn : Nat := 4
def c_law20_PathOwn_L0 : Cd :=
 (.seq (.rg [⟨none, [(some 35, .bin .lss (.t 34) (.t 33))]⟩] [1, 5, 6, 7, 33, 34, 35])
 (.seq (.ite (.t 35)
 .skip
 (.exit 0))
 (.seq (.block 1 (.seq (.rg [⟨none, [(some 36, .mv (.t 34)), (some 9, .mv (.t 36))]⟩] [1, 5, 6, 7, 9, 33, 34])
 (.rg [⟨none, [(some 37, .mv (.t 7)), (some 38, .mv (.t 9)), (some 39, .idxS (.t 37) (.t 38) 1), (none, .st (.t 39) (.c (.string ⟨#[115, 112, 111, 105, 108, 116]⟩)) 1)]⟩] [1, 5, 6, 7, 33, 34])))
 (.rg [⟨none, [(some 40, .bin .add (.t 34) (.c (.int .i64 1))), (some 34, .mv (.t 40))]⟩] [1, 5, 6, 7, 33, 34]))))
def c_law20_PathOwn_L1 : Cd :=
 (.seq (.rg [⟨none, [(some 50, .bin .lss (.t 49) (.t 48))]⟩] [1, 5, 6, 10, 48, 49, 50])
 (.seq (.ite (.t 50)
 .skip
 (.exit 2))
 (.seq (.block 3 (.seq (.rg [⟨none, [(some 51, .mv (.t 49)), (some 12, .mv (.t 51))]⟩] [1, 5, 6, 10, 12, 48, 49])
 (.rg [⟨none, [(some 52, .mv (.t 10)), (some 53, .mv (.t 12)), (some 54, .idxS (.t 52) (.t 53) 2), (some 55, .fldA (.t 54) 1 1), (none, .st (.t 55) (.c (.int .i64 (-9))) 1)]⟩] [1, 5, 6, 10, 48, 49])))
 (.rg [⟨none, [(some 56, .bin .add (.t 49) (.c (.int .i64 1))), (some 49, .mv (.t 56))]⟩] [1, 5, 6, 10, 48, 49]))))
def c_law20_PathOwn_L2 : Cd :=
 (.seq (.rg [⟨none, [(some 66, .bin .lss (.t 65) (.t 64))]⟩] [5, 6, 13, 64, 65, 66])
 (.seq (.ite (.t 66)
 .skip
 (.exit 4))
 (.seq (.block 5 (.seq (.rg [⟨none, [(some 67, .mv (.t 65)), (some 15, .mv (.t 67))]⟩] [5, 6, 13, 15, 64, 65])
 (.rg [⟨none, [(some 68, .mv (.t 13)), (some 69, .mv (.t 15)), (some 70, .idxS (.t 68) (.t 69) 2), (some 71, .fldA (.t 70) 1 1), (none, .st (.t 71) (.c (.string ⟨#[115, 112, 111, 105, 108, 116]⟩)) 1)]⟩] [5, 6, 13, 64, 65])))
 (.rg [⟨none, [(some 72, .bin .add (.t 65) (.c (.int .i64 1))), (some 65, .mv (.t 72))]⟩] [5, 6, 13, 64, 65]))))
def c_law20_PathOwn : Cd :=
 (.seq (.rg [⟨none, [(some 4, .mv (.c (.bool false)))]⟩] [0, 1])
 (.seq (.rg [⟨none, [(some 17, .mv (.t 0)), (some 18, .call 6 [(.t 17)]), (some 16, .mv (.t 18)), (some 19, .ext (.t 16) 0), (some 20, .ext (.t 16) 1), (some 5, .mv (.t 19)), (some 6, .mv (.t 20))]⟩] [1, 5, 6])
 (.seq (.seq (.rg [⟨none, [(some 21, .call 7 []), (some 22, .un .not (.t 21)), (some 23, .mv (.t 22))]⟩, ⟨some (23, false), [(some 24, .mv (.t 5)), (some 25, .eqA false 23 (.t 24) (.c (.pointer none)))]⟩, ⟨none, [(some 26, .pick (.t 23) (.c (.bool true)) (.t 25))]⟩] [1, 5, 6, 26])
 (.ite (.t 26)
 (.seq (.rg [⟨none, [(some 4, .mv (.c (.bool false)))]⟩] [4])
 .ret)
 .skip))
 (.seq (.rg [⟨none, [(some 28, .mv (.t 1)), (some 29, .call 14 [(.t 28)]), (some 27, .mv (.t 29)), (some 30, .ext (.t 27) 0), (some 31, .ext (.t 27) 1), (some 7, .mv (.t 30)), (some 8, .mv (.t 31))]⟩] [1, 5, 6, 7])
 (.seq (.seq (.rg [⟨none, [(none, .gh), (some 32, .mv (.t 7)), (some 33, .len (.t 32)), (some 34, .mv (.c (.int .i64 0)))]⟩] [1, 5, 6, 7, 33, 34])
 (.block 0 (.loop c_law20_PathOwn_L0)))
 (.seq (.rg [⟨none, [(some 42, .mv (.t 5)), (some 43, .mv (.t 1)), (some 44, .call 15 [(.t 42), (.t 43)]), (some 41, .mv (.t 44)), (some 45, .ext (.t 41) 0), (some 46, .ext (.t 41) 1), (some 10, .mv (.t 45)), (some 11, .mv (.t 46))]⟩] [1, 5, 6, 10])
 (.seq (.seq (.rg [⟨none, [(none, .gh), (some 47, .mv (.t 10)), (some 48, .len (.t 47)), (some 49, .mv (.c (.int .i64 0)))]⟩] [1, 5, 6, 10, 48, 49])
 (.block 2 (.loop c_law20_PathOwn_L1)))
 (.seq (.rg [⟨none, [(some 58, .mv (.t 5)), (some 59, .mv (.t 1)), (some 60, .call 16 [(.t 58), (.t 59)]), (some 57, .mv (.t 60)), (some 61, .ext (.t 57) 0), (some 62, .ext (.t 57) 1), (some 13, .mv (.t 61)), (some 14, .mv (.t 62))]⟩] [5, 6, 13])
 (.seq (.seq (.rg [⟨none, [(none, .gh), (some 63, .mv (.t 13)), (some 64, .len (.t 63)), (some 65, .mv (.c (.int .i64 0)))]⟩] [5, 6, 13, 64, 65])
 (.block 4 (.loop c_law20_PathOwn_L2)))
 (.seq (.rg [⟨none, [(some 73, .mv (.t 5)), (some 74, .call 8 [(.t 73)]), (some 75, .mv (.t 6)), (some 76, .call 18 [(.t 75)]), (some 77, .call 17 [(.t 74), (.t 76)]), (some 4, .mv (.t 77))]⟩] [4])
 .ret))))))))))
theorem k_law20_PathOwn : Ok Tryz.prog 4 c_law20_PathOwn 78 [] [.tmp 4] := Ok.mk' Tryz.func4 (by kernel_rfl) (by kernel_rfl) (by kernel_rfl)

end Go.Proofs.YtnoeabmpdjpfaaaGreatDoor.Vc

/- List and Attrs, exactly. -/
set_option linter.unusedVariables false
set_option linter.unusedSimpArgs false
set_option maxRecDepth 100000
namespace Go.Proofs.YtnoeabmpdjpfaaaGreatDoor.Vc
open Go Go.Proofs

def attrsAt (T : PT) (n : Int) : List Attr := ((T.get n).map attrsOf).getD []
section
variable {w : World} {u : PH} {L : Lay} {T : PT} {k : Nat}
theorem ListX_spec (hu : u.le w) (hT : TM u L T) (p : List UInt8) (hp : p.length < 4294967281) (uG : PH) (huG : uG.le w) (hG : Pa.GlobI uG) (hok : T.ok k) (hk' : k ≤ 1099511627000) (hg : VGood T.view) (hkd : T.kidsOk) :
    Spec Tryz.prog f_path_List [ptr (L .t), .string (Pa.mkS p)] PH.no w fun rs m' => ∃ v g e, ResX T p [.s (.int .i64 g), .s (.int .i64 e)] ∧ rs = [.s v, .s (.int .i64 e)] ∧ SlO m' v 51 2 ((if e = 0 then childA T g else []).map gChild) := by
  refine spec_of k_path_List [.g (.s (ptr (L .t))), .g (.s (.string (Pa.mkS p)))] (by simp) (by simp [AV.ok, GV.ok, Value.oneCell', ptr]) ?_
  have hmany := hok.many
  simp (maxSteps := 2000000) only [c_path_List, vc_seq, vc_rg, thenQ_n, kKeep_eq, segs_nil, segs_n, ops_nil, ops_cons, vcOp, ev, look, put_mk, keep_mk, keepL, Value.oneCell', cond_true, Nat.reduceEqDiff, ↓reduceIte, reduceCtorEq, Nat.zero_add, initF, initP, ptr]
  refine call_val (dOk_spec rfl) rfl (Q := fun rs _ => ResX T p rs) (fun w' vs hv hw hph => ?_) fun rs m4 _ hq => ?_
  · obtain ⟨vs, rfl, _, hv⟩ := argsV_g hv
    obtain ⟨vs, rfl, _, hv⟩ := argsV_g hv
    obtain rfl := argsV_nil hv
    exact ResolveX_spec (fun b o h => hw b o (by rw [u0_no]; exact hu b o h)) hT _ hp uG (fun b o hb => hw b o (by rw [u0_no]; exact huG b o hb)) hG hok (by omega) hg hkd
  obtain ⟨g, e, rfl, hres⟩ := hq
  have hres : ResX T p [.s (.int .i64 g), .s (.int .i64 e)] := ⟨g, e, rfl, hres⟩
  simp (maxSteps := 2000000) only [retS, List.getElem?_cons_zero, List.getElem?_cons_succ, vc_skip, vc_ret, vc_seq, vc_rg, vc_ite, thenQ_n, thenQ_r, kKeep_eq, finQ_r, segs_nil, segs_n, ops_nil, ops_cons, vcOp, ev, look, put_mk, keep_mk, keepL, binV, binC, Value.oneCell', cond_true, Nat.reduceEqDiff, ↓reduceIte, reduceCtorEq, Bool.true_and, true_and, br_t]
  refine ⟨fun hne => ?_, fun he => ?_⟩
  · have hne : e ≠ 0 := by simpa using hne
    exact fin_m (rs := [.s (.slice none 0 0), .s (.int .i64 e)]) PH.no rfl (fun _ _ h => h) ⟨_, _, _, hres, rfl, by rw [if_neg hne]; exact ⟨fun x hx => by simp at hx, .inl ⟨rfl, rfl⟩⟩⟩
  have he : e = 0 := by simpa using he
  subst he
  refine call_ownm rfl rfl (Q := fun rs m' => ∃ v, rs = [.s v] ∧ SlO m' v 51 2 ((childA T g).map gChild)) (fun w' vs hv hw _ _ => ?_) fun rs m1 _ hq _ => ?_
  · obtain ⟨vs, rfl, _, hv⟩ := argsV_g hv
    obtain ⟨vs, rfl, _, hv⟩ := argsV_g hv
    obtain rfl := argsV_nil hv
    exact Children_spec (fun b o h => hw b o (by rw [u0_no]; exact hu b o h)) hT g hkd hg (by omega)
  obtain ⟨v, rfl, hv⟩ := hq
  simp (maxSteps := 2000000) only [retS, uni_no_r, vc_ret, thenQ_n, kKeep_eq, finQ_r, segs_nil, ops_nil, ops_cons, vcOp, ev, look, put_mk, keep_mk, keepL, Value.oneCell', cond_true, Nat.reduceEqDiff, ↓reduceIte]
  exact fin_m (rs := [.s v, .s (.int .i64 0)]) _ rfl (fun _ _ h => h) ⟨v, g, 0, hres, rfl, by rw [if_pos rfl]; exact hv⟩
theorem AttrsX_spec (hu : u.le w) (hT : TM u L T) (p : List UInt8) (hp : p.length < 4294967281) (uG : PH) (huG : uG.le w) (hG : Pa.GlobI uG) (hok : T.ok k) (hk' : k ≤ 1099511627000) (hg : VGood T.view) (hkd : T.kidsOk) :
    Spec Tryz.prog f_path_Attrs [ptr (L .t), .string (Pa.mkS p)] PH.no w fun rs m' => ∃ v g e, ResX T p [.s (.int .i64 g), .s (.int .i64 e)] ∧ rs = [.s v, .s (.int .i64 e)] ∧ SlO m' v 55 2 ((if e = 0 then attrsAt T g else []).map gAttr) := by
  refine spec_of k_path_Attrs [.g (.s (ptr (L .t))), .g (.s (.string (Pa.mkS p)))] (by simp) (by simp [AV.ok, GV.ok, Value.oneCell', ptr]) ?_
  have hmany := hok.many
  have hsm : ∀ n x, T.get n = some x → x.small := (ok_tells hok (by omega)).small
  simp (maxSteps := 2000000) only [c_path_Attrs, vc_seq, vc_rg, thenQ_n, kKeep_eq, segs_nil, segs_n, ops_nil, ops_cons, vcOp, ev, look, put_mk, keep_mk, keepL, Value.oneCell', cond_true, Nat.reduceEqDiff, ↓reduceIte, reduceCtorEq, Nat.zero_add, initF, initP, gTreeNode_zero, ptr]
  refine call_val (dOk_spec rfl) rfl (Q := fun rs _ => ResX T p rs) (fun w' vs hv hw hph => ?_) fun rs m4 _ hq => ?_
  · obtain ⟨vs, rfl, _, hv⟩ := argsV_g hv
    obtain ⟨vs, rfl, _, hv⟩ := argsV_g hv
    obtain rfl := argsV_nil hv
    exact ResolveX_spec (fun b o h => hw b o (by rw [u0_no]; exact hu b o h)) hT _ hp uG (fun b o hb => hw b o (by rw [u0_no]; exact huG b o hb)) hG hok (by omega) hg hkd
  obtain ⟨g, e, rfl, hres⟩ := hq
  have hres : ResX T p [.s (.int .i64 g), .s (.int .i64 e)] := ⟨g, e, rfl, hres⟩
  simp (maxSteps := 2000000) only [retS, List.getElem?_cons_zero, List.getElem?_cons_succ, vc_skip, vc_ret, vc_seq, vc_rg, vc_ite, thenQ_n, thenQ_r, kKeep_eq, finQ_r, segs_nil, segs_n, ops_nil, ops_cons, vcOp, ev, look, put_mk, keep_mk, keepL, binV, binC, Value.oneCell', cond_true, Nat.reduceEqDiff, ↓reduceIte, reduceCtorEq, Bool.true_and, true_and, br_t]
  refine ⟨fun hne => ?_, fun he => ?_⟩
  · have hne : e ≠ 0 := by simpa using hne
    exact fin_m (rs := [.s (.slice none 0 0), .s (.int .i64 e)]) PH.no rfl (fun _ _ h => h) ⟨_, _, _, hres, rfl, by rw [if_neg hne]; exact ⟨fun x hx => by simp at hx, .inl ⟨rfl, rfl⟩⟩⟩
  have he : e = 0 := by simpa using he
  subst he
  refine call_ownm rfl rfl (Q := fun rs m' => ∃ t b, rs = [gTreeNode t, .s (.bool b)] ∧ SlO m' t.attrs 55 2 ((attrsAt T g).map gAttr)) (fun w' vs hv hw _ _ => ?_) fun rs m1 _ hq _ => ?_
  · obtain ⟨vs, rfl, _, hv⟩ := argsV_g hv
    obtain ⟨vs, rfl, _, hv⟩ := argsV_g hv
    obtain rfl := argsV_nil hv
    refine (Node_spec (fun b o h => hw b o (by rw [u0_no]; exact hu b o h)) hT g (hsm g)).mono fun rs m' h => ?_
    cases hx : T.get g with
    | none => exact ⟨zTreeNode, false, h.1 hx, by rw [attrsAt, hx]; exact ⟨fun x hx => by simp at hx, .inl ⟨rfl, rfl⟩⟩⟩
    | some x =>
      obtain ⟨v, e1, e2⟩ := h.2 x hx
      exact ⟨_, true, e1, by rw [attrsAt, hx]; exact e2⟩
  obtain ⟨t, b, rfl, hv⟩ := hq
  simp (maxSteps := 2000000) only [retS, uni_no_r, List.getElem?_cons_zero, List.getElem?_cons_succ, vc_ret, vc_seq, vc_rg, thenQ_n, kKeep_eq, finQ_r, segs_nil, segs_n, ops_nil, ops_cons, vcOp, ev, look, updL, put_mk, put_mk0, keep_mk, keepL, GV.getT, Value.oneCell', cond_true, Nat.reduceEqDiff, ↓reduceIte, List.nil_append, Bool.and_true, Bool.true_and, Bool.not_false, true_and, and_true, getT_nil, setT_nil, fits_s, gTreeNode_sz, gTreeNode_same, gTreeNode_fld3, gTreeNode_get3]
  exact fin_m (rs := [.s t.attrs, .s (.int .i64 0)]) _ rfl (fun _ _ h => h) ⟨t.attrs, g, 0, hres, rfl, by rw [if_pos rfl]; exact hv⟩
end

end Go.Proofs.YtnoeabmpdjpfaaaGreatDoor.Vc

/- The code of some functions of the program, its types resolved: printed by a program of this claim. -/
set_option linter.unusedVariables false
set_option maxRecDepth 100000
namespace Go.Proofs.YtnoeabmpdjpfaaaGreatDoor.Vc
open Go Go.Proofs

abbrev f_ref12_New : Nat := 26
def c_ref12_New : Cd :=
 (.seq (.rg [⟨none, [(some 0, .mv (.c (.pointer none)))]⟩] [])
 (.seq (.rg [⟨none, [(some 1, .bld (.c (.s (.int .i64 0)) (.c (.s (.int .i64 0)) (.c (.s (.string ⟨#[]⟩)) (.c (.s (.slice none 0 0)) .u)))) [(0, (.c (.int .i64 1)))]), (some 2, .bld (.c (.s (.int .i64 0)) (.c (.s (.int .i64 0)) (.c (.s (.string ⟨#[]⟩)) (.c (.s (.slice none 0 0)) .u)))) [(0, (.c (.int .i64 2)))]), (some 3, .bldS 32 4 (.c (.s (.int .i64 0)) (.c (.s (.int .i64 0)) (.c (.s (.string ⟨#[]⟩)) (.c (.s (.slice none 0 0)) .u)))) [(.t 1), (.t 2)]), (none, .gh), (some 4, .bld (.c (.s (.slice none 0 0)) (.c (.s (.slice none 0 0)) .u)) [(0, (.t 3))]), (some 5, .box 107 (.t 4)), (none, .gh), (some 0, .mv (.t 5))]⟩] [0])
 .ret))
theorem k_ref12_New : Ok Tryz.prog 26 c_ref12_New 6 [] [.tmp 0] := Ok.mk' Tryz.func26 (by kernel_rfl) (by kernel_rfl) (by kernel_rfl)

abbrev f_ref12_Tree_find : Nat := 56
def c_ref12_Tree_find_L0 : Cd :=
 (.seq (.seq (.rg [⟨none, [(some 7, .mv (.t 6)), (some 8, .mv (.t 0)), (some 9, .nilc (.t 8)), (some 10, .fldA (.t 9) 0 0), (some 11, .ld (.t 10) 1 false), (some 12, .len (.t 11)), (some 13, .bin .lss (.t 7) (.t 12)), (some 14, .mv (.t 13))]⟩, ⟨some (14, true), [(some 15, .mv (.t 0)), (some 16, .nilc (.t 15)), (some 17, .fldA (.t 16) 0 0), (some 18, .ld (.t 17) 1 false), (some 19, .mv (.t 6)), (some 20, .idxS (.t 18) (.t 19) 4), (some 21, .fldA (.t 20) 0 0), (some 22, .ld (.t 21) 1 false), (some 23, .mv (.t 1)), (some 24, .bin .lss (.t 22) (.t 23))]⟩, ⟨none, [(some 25, .pick (.t 14) (.t 24) (.c (.bool false)))]⟩] [0, 1, 6, 25])
 (.ite (.t 25)
 .skip
 (.exit 0)))
 (.block 1 (.rg [⟨none, [(some 26, .mv (.t 6)), (some 27, .bin .add (.t 26) (.c (.int .i64 1))), (some 6, .mv (.t 27))]⟩] [0, 1, 6])))
def c_ref12_Tree_find : Cd :=
 (.seq (.rg [⟨none, [(some 4, .mv (.c (.int .i64 0))), (some 5, .mv (.c (.bool false)))]⟩] [0, 1])
 (.seq (.rg [⟨none, [(some 6, .mv (.c (.int .i64 0)))]⟩] [0, 1, 6])
 (.seq (.block 0 (.loop c_ref12_Tree_find_L0))
 (.seq (.rgq [⟨none, [(some 28, .mv (.t 6)), (some 29, .mv (.t 6)), (some 30, .mv (.t 0)), (some 31, .nilc (.t 30)), (some 32, .fldA (.t 31) 0 0), (some 33, .ld (.t 32) 1 false), (some 34, .len (.t 33)), (some 35, .bin .lss (.t 29) (.t 34)), (some 36, .mv (.t 35))]⟩, ⟨some (36, true), [(some 37, .mv (.t 0)), (some 38, .nilc (.t 37)), (some 39, .fldA (.t 38) 0 0), (some 40, .ld (.t 39) 1 false), (some 41, .mv (.t 6)), (some 42, .idxS (.t 40) (.t 41) 4), (some 43, .fldA (.t 42) 0 0), (some 44, .ld (.t 43) 1 false), (some 45, .mv (.t 1)), (some 46, .bin .eql (.t 44) (.t 45))]⟩, ⟨none, [(some 47, .pick (.t 36) (.t 46) (.c (.bool false))), (some 4, .mv (.t 28))]⟩] [⟨none, [(some 5, .mv (.t 47))]⟩] [4, 5])
 .ret))))
theorem k_ref12_Tree_find : Ok Tryz.prog 56 c_ref12_Tree_find 48 [(4, 21)] [.tmp 4, .tmp 5] := Ok.mk' Tryz.func56 (by kernel_rfl) (by kernel_rfl) (by kernel_rfl)

abbrev f_ref12_clone : Nat := 55
def c_ref12_clone_L0 : Cd :=
 (.seq (.seq (.rg [⟨none, [(some 6, .mv (.t 4)), (some 7, .mv (.t 0)), (some 8, .len (.t 7)), (some 9, .bin .lss (.t 6) (.t 8))]⟩] [0, 3, 4, 9])
 (.ite (.t 9)
 .skip
 (.exit 0)))
 (.seq (.block 1 (.seq (.rg [⟨none, [(some 12, .mv (.t 0)), (some 13, .mv (.t 4)), (some 14, .idxS (.t 12) (.t 13) 4), (some 15, .ld (.t 14) 4 true), (some 5, .new 32 (.c (.s (.int .i64 0)) (.c (.s (.int .i64 0)) (.c (.s (.string ⟨#[]⟩)) (.c (.s (.slice none 0 0)) .u))))), (none, .st (.t 5) (.t 15) 4)]⟩] [0, 3, 4, 5])
 (.seq (.rg [⟨none, [(some 16, .fldA (.t 5) 3 3), (some 17, .ld (.t 16) 1 false), (none, .gh), (some 18, .app 55 2 32 (.c (.s (.string ⟨#[]⟩)) (.c (.s (.string ⟨#[]⟩)) .u)) (.c (.slice none 0 0)) (.t 17)), (none, .gh), (some 19, .fldA (.t 5) 3 3), (none, .st (.t 19) (.t 18) 1)]⟩] [0, 3, 4, 5])
 (.rg [⟨none, [(some 20, .mv (.t 3)), (some 21, .ld (.t 5) 4 true), (some 22, .bldS 32 4 (.c (.s (.int .i64 0)) (.c (.s (.int .i64 0)) (.c (.s (.string ⟨#[]⟩)) (.c (.s (.slice none 0 0)) .u)))) [(.t 21)]), (some 23, .app 32 4 56 (.c (.s (.int .i64 0)) (.c (.s (.int .i64 0)) (.c (.s (.string ⟨#[]⟩)) (.c (.s (.slice none 0 0)) .u)))) (.t 20) (.t 22)), (some 3, .mv (.t 23))]⟩] [0, 3, 4]))))
 (.rg [⟨none, [(some 10, .mv (.t 4)), (some 11, .bin .add (.t 10) (.c (.int .i64 1))), (some 4, .mv (.t 11))]⟩] [0, 3, 4])))
def c_ref12_clone : Cd :=
 (.seq (.rg [⟨none, [(some 2, .mv (.c (.slice none 0 0)))]⟩] [0])
 (.seq (.rg [⟨none, [(some 3, .mv (.c (.slice none 0 0)))]⟩] [0, 3])
 (.seq (.seq (.rg [⟨none, [(none, .gh), (some 4, .mv (.c (.int .i64 0)))]⟩] [0, 3, 4])
 (.block 0 (.loop c_ref12_clone_L0)))
 (.seq (.rg [⟨none, [(some 24, .mv (.t 3)), (none, .gh), (some 2, .mv (.t 24))]⟩] [2])
 .ret))))
theorem k_ref12_clone : Ok Tryz.prog 55 c_ref12_clone 25 [] [.tmp 2] := Ok.mk' Tryz.func55 (by kernel_rfl) (by kernel_rfl) (by kernel_rfl)

abbrev f_ref12_Tree_put : Nat := 58
def c_ref12_Tree_put : Cd :=
 (.seq (.rg [⟨none, [(some 3, .box 32 (.t 1))]⟩] [0, 3])
 (.seq (.rg [⟨none, [(some 8, .mv (.t 0)), (some 9, .fldA (.t 3) 0 0), (some 10, .ld (.t 9) 1 false), (some 11, .call 56 [(.t 8), (.t 10)]), (some 7, .mv (.t 11)), (some 12, .ext (.t 7) 0), (some 13, .ext (.t 7) 1), (some 4, .mv (.t 12)), (some 5, .mv (.t 13))]⟩] [0, 3, 4, 5])
 (.seq (.seq (.rg [⟨none, [(some 14, .mv (.t 5))]⟩] [0, 3, 4, 14])
 (.ite (.t 14)
 (.seq (.rgq [⟨none, [(some 15, .mv (.t 0)), (some 16, .nilc (.t 15)), (some 17, .fldA (.t 16) 0 0), (some 18, .ld (.t 17) 1 false), (some 19, .mv (.t 4)), (some 20, .ld (.t 3) 4 true)]⟩] [⟨none, [(some 21, .idxS (.t 18) (.t 19) 4), (none, .st (.t 21) (.t 20) 4)]⟩] [])
 .ret)
 .skip))
 (.seq (.rg [⟨none, [(some 22, .mv (.t 0)), (some 23, .nilc (.t 22)), (some 24, .fldA (.t 23) 0 0), (some 25, .ld (.t 24) 1 false), (some 26, .mv (.t 4)), (some 27, .sl 4 (.t 25) none (some (.t 26))), (none, .gh), (none, .gh), (some 28, .app 32 4 56 (.c (.s (.int .i64 0)) (.c (.s (.int .i64 0)) (.c (.s (.string ⟨#[]⟩)) (.c (.s (.slice none 0 0)) .u)))) (.c (.slice none 0 0)) (.t 27)), (some 6, .mv (.t 28))]⟩] [0, 3, 4, 6])
 (.seq (.rg [⟨none, [(some 29, .mv (.t 6)), (some 30, .ld (.t 3) 4 true), (some 31, .bldS 32 4 (.c (.s (.int .i64 0)) (.c (.s (.int .i64 0)) (.c (.s (.string ⟨#[]⟩)) (.c (.s (.slice none 0 0)) .u)))) [(.t 30)]), (some 32, .app 32 4 56 (.c (.s (.int .i64 0)) (.c (.s (.int .i64 0)) (.c (.s (.string ⟨#[]⟩)) (.c (.s (.slice none 0 0)) .u)))) (.t 29) (.t 31)), (some 6, .mv (.t 32))]⟩] [0, 4, 6])
 (.rg [⟨none, [(some 33, .mv (.t 0)), (some 34, .mv (.t 6)), (some 35, .mv (.t 0)), (some 36, .nilc (.t 35)), (some 37, .fldA (.t 36) 0 0), (some 38, .ld (.t 37) 1 false), (some 39, .mv (.t 4)), (some 40, .sl 4 (.t 38) (some (.t 39)) none), (none, .gh), (some 41, .app 32 4 56 (.c (.s (.int .i64 0)) (.c (.s (.int .i64 0)) (.c (.s (.string ⟨#[]⟩)) (.c (.s (.slice none 0 0)) .u)))) (.t 34) (.t 40)), (none, .gh), (some 42, .nilc (.t 33)), (some 43, .fldA (.t 42) 0 0), (none, .st (.t 43) (.t 41) 1)]⟩] []))))))
theorem k_ref12_Tree_put : Ok Tryz.prog 58 c_ref12_Tree_put 44 [(3, 6)] [] := Ok.mk' Tryz.func58 (by kernel_rfl) (by kernel_rfl) (by kernel_rfl)

abbrev f_ref12_set : Nat := 57
def c_ref12_set_L0 : Cd :=
 (.seq (.seq (.rg [⟨none, [(some 12, .mv (.t 9)), (some 13, .mv (.t 0)), (some 14, .len (.t 13)), (some 15, .bin .lss (.t 12) (.t 14))]⟩] [0, 1, 2, 7, 8, 9, 15])
 (.ite (.t 15)
 .skip
 (.exit 0)))
 (.seq (.block 1 (.seq (.seq (.rg [⟨none, [(some 18, .mv (.t 8)), (some 19, .un .not (.t 18)), (some 20, .mv (.t 19))]⟩, ⟨some (20, true), [(some 21, .mv (.t 0)), (some 22, .mv (.t 9)), (some 23, .idxS (.t 21) (.t 22) 2), (some 24, .fldA (.t 23) 0 0), (some 25, .ld (.t 24) 1 false), (some 26, .mv (.t 1)), (some 27, .bin .geq (.t 25) (.t 26))]⟩, ⟨none, [(some 28, .pick (.t 20) (.t 27) (.c (.bool false)))]⟩] [0, 1, 2, 7, 8, 9, 28])
 (.ite (.t 28)
 (.seq (.rg [⟨none, [(some 29, .mv (.t 7)), (some 30, .mv (.t 1)), (some 31, .mv (.t 2)), (some 32, .bld (.c (.s (.string ⟨#[]⟩)) (.c (.s (.string ⟨#[]⟩)) .u)) [(0, (.t 30)), (1, (.t 31))]), (some 33, .bldS 55 2 (.c (.s (.string ⟨#[]⟩)) (.c (.s (.string ⟨#[]⟩)) .u)) [(.t 32)]), (some 34, .app 55 2 32 (.c (.s (.string ⟨#[]⟩)) (.c (.s (.string ⟨#[]⟩)) .u)) (.t 29) (.t 33)), (some 7, .mv (.t 34))]⟩] [0, 1, 2, 7, 9])
 (.rg [⟨none, [(some 8, .mv (.c (.bool true)))]⟩] [0, 1, 2, 7, 8, 9]))
 .skip))
 (.seq (.rg [⟨none, [(some 35, .mv (.t 0)), (some 36, .mv (.t 9)), (some 37, .idxS (.t 35) (.t 36) 2), (some 38, .fldA (.t 37) 0 0), (some 39, .ld (.t 38) 1 false), (some 40, .mv (.t 1)), (some 41, .bin .neq (.t 39) (.t 40))]⟩] [0, 1, 2, 7, 8, 9, 41])
 (.ite (.t 41)
 (.rg [⟨none, [(some 42, .mv (.t 7)), (some 43, .mv (.t 0)), (some 44, .mv (.t 9)), (some 45, .idxS (.t 43) (.t 44) 2), (some 46, .ld (.t 45) 2 true), (some 47, .bldS 55 2 (.c (.s (.string ⟨#[]⟩)) (.c (.s (.string ⟨#[]⟩)) .u)) [(.t 46)]), (some 48, .app 55 2 32 (.c (.s (.string ⟨#[]⟩)) (.c (.s (.string ⟨#[]⟩)) .u)) (.t 42) (.t 47)), (some 7, .mv (.t 48))]⟩] [0, 1, 2, 7, 8, 9])
 .skip))))
 (.rg [⟨none, [(some 16, .mv (.t 9)), (some 17, .bin .add (.t 16) (.c (.int .i64 1))), (some 9, .mv (.t 17))]⟩] [0, 1, 2, 7, 8, 9])))
def c_ref12_set : Cd :=
 (.seq (.rg [⟨none, [(some 6, .mv (.c (.slice none 0 0)))]⟩] [0, 1, 2])
 (.seq (.rg [⟨none, [(some 7, .mv (.c (.slice none 0 0)))]⟩] [0, 1, 2, 7])
 (.seq (.rg [⟨none, [(none, .gh), (some 10, .mv (.t 2)), (some 11, .bin .eql (.t 10) (.c (.string ⟨#[]⟩))), (some 8, .mv (.t 11))]⟩] [0, 1, 2, 7, 8])
 (.seq (.seq (.rg [⟨none, [(some 9, .mv (.c (.int .i64 0)))]⟩] [0, 1, 2, 7, 8, 9])
 (.block 0 (.loop c_ref12_set_L0)))
 (.seq (.seq (.rg [⟨none, [(some 49, .mv (.t 8)), (some 50, .un .not (.t 49))]⟩] [1, 2, 7, 50])
 (.ite (.t 50)
 (.rg [⟨none, [(some 51, .mv (.t 7)), (some 52, .mv (.t 1)), (some 53, .mv (.t 2)), (some 54, .bld (.c (.s (.string ⟨#[]⟩)) (.c (.s (.string ⟨#[]⟩)) .u)) [(0, (.t 52)), (1, (.t 53))]), (some 55, .bldS 55 2 (.c (.s (.string ⟨#[]⟩)) (.c (.s (.string ⟨#[]⟩)) .u)) [(.t 54)]), (some 56, .app 55 2 32 (.c (.s (.string ⟨#[]⟩)) (.c (.s (.string ⟨#[]⟩)) .u)) (.t 51) (.t 55)), (some 7, .mv (.t 56))]⟩] [7])
 .skip))
 (.seq (.rg [⟨none, [(some 57, .mv (.t 7)), (none, .gh), (some 6, .mv (.t 57))]⟩] [6])
 .ret))))))
theorem k_ref12_set : Ok Tryz.prog 57 c_ref12_set 58 [] [.tmp 6] := Ok.mk' Tryz.func57 (by kernel_rfl) (by kernel_rfl) (by kernel_rfl)

abbrev f_ref12_SameNode : Nat := 42
def c_ref12_SameNode_L0 : Cd :=
 (.seq (.seq (.rg [⟨none, [(some 34, .mv (.t 5)), (some 35, .fldA (.t 2) 3 3), (some 36, .ld (.t 35) 1 false), (some 37, .len (.t 36)), (some 38, .bin .lss (.t 34) (.t 37))]⟩] [2, 3, 5, 38])
 (.ite (.t 38)
 .skip
 (.exit 0)))
 (.seq (.block 1 (.seq (.rgq [⟨none, [(some 41, .fldA (.t 2) 3 3), (some 42, .ld (.t 41) 1 false), (some 43, .mv (.t 5)), (some 44, .idxS (.t 42) (.t 43) 2), (some 45, .ld (.t 44) 2 true), (some 46, .fldA (.t 3) 3 3), (some 47, .ld (.t 46) 1 false), (some 48, .mv (.t 5)), (some 49, .idxS (.t 47) (.t 48) 2), (some 50, .ld (.t 49) 2 true)]⟩] [⟨none, [(some 51, .eqA true 55 (.t 45) (.t 50))]⟩] [2, 3, 5, 51])
 (.ite (.t 51)
 (.seq (.rg [⟨none, [(some 4, .mv (.c (.bool false)))]⟩] [4])
 .ret)
 .skip)))
 (.rg [⟨none, [(some 39, .mv (.t 5)), (some 40, .bin .add (.t 39) (.c (.int .i64 1))), (some 5, .mv (.t 40))]⟩] [2, 3, 5])))
def c_ref12_SameNode : Cd :=
 (.seq (.rg [⟨none, [(some 2, .box 32 (.t 0)), (some 3, .box 32 (.t 1)), (some 4, .mv (.c (.bool false)))]⟩] [2, 3])
 (.seq (.seq (.rg [⟨none, [(some 6, .fldA (.t 2) 0 0), (some 7, .ld (.t 6) 1 false), (some 8, .fldA (.t 3) 0 0), (some 9, .ld (.t 8) 1 false), (some 10, .bin .neq (.t 7) (.t 9)), (some 11, .mv (.t 10))]⟩, ⟨some (11, false), [(some 12, .fldA (.t 2) 1 1), (some 13, .ld (.t 12) 1 false), (some 14, .fldA (.t 3) 1 1), (some 15, .ld (.t 14) 1 false), (some 16, .bin .neq (.t 13) (.t 15))]⟩, ⟨none, [(some 17, .pick (.t 11) (.c (.bool true)) (.t 16)), (some 18, .mv (.t 17))]⟩, ⟨some (18, false), [(some 19, .fldA (.t 2) 2 2), (some 20, .ld (.t 19) 1 false), (some 21, .fldA (.t 3) 2 2), (some 22, .ld (.t 21) 1 false), (some 23, .bin .neq (.t 20) (.t 22))]⟩, ⟨none, [(some 24, .pick (.t 18) (.c (.bool true)) (.t 23)), (some 25, .mv (.t 24))]⟩, ⟨some (25, false), [(some 26, .fldA (.t 2) 3 3), (some 27, .ld (.t 26) 1 false), (some 28, .len (.t 27)), (some 29, .fldA (.t 3) 3 3), (some 30, .ld (.t 29) 1 false), (some 31, .len (.t 30)), (some 32, .bin .neq (.t 28) (.t 31))]⟩, ⟨none, [(some 33, .pick (.t 25) (.c (.bool true)) (.t 32))]⟩] [2, 3, 33])
 (.ite (.t 33)
 (.seq (.rg [⟨none, [(some 4, .mv (.c (.bool false)))]⟩] [4])
 .ret)
 .skip))
 (.seq (.seq (.rg [⟨none, [(some 5, .mv (.c (.int .i64 0)))]⟩] [2, 3, 5])
 (.block 0 (.loop c_ref12_SameNode_L0)))
 (.seq (.rg [⟨none, [(some 4, .mv (.c (.bool true)))]⟩] [4])
 .ret))))
theorem k_ref12_SameNode : Ok Tryz.prog 42 c_ref12_SameNode 52 [(6, 10)] [.tmp 4] := Ok.mk' Tryz.func42 (by kernel_rfl) (by kernel_rfl) (by kernel_rfl)

abbrev f_ref12_Same : Nat := 17
def c_ref12_Same_L0 : Cd :=
 (.seq (.seq (.rg [⟨none, [(some 11, .mv (.t 5)), (some 12, .mv (.t 0)), (some 13, .len (.t 12)), (some 14, .bin .lss (.t 11) (.t 13))]⟩] [0, 1, 5, 14])
 (.ite (.t 14)
 .skip
 (.exit 0)))
 (.seq (.block 1 (.seq (.rgq [⟨none, [(some 17, .mv (.t 0)), (some 18, .mv (.t 5)), (some 19, .idxS (.t 17) (.t 18) 4), (some 20, .ld (.t 19) 4 true), (some 21, .mv (.t 1)), (some 22, .mv (.t 5)), (some 23, .idxS (.t 21) (.t 22) 4), (some 24, .ld (.t 23) 4 true)]⟩] [⟨none, [(some 25, .call 42 [(.t 20), (.t 24)]), (some 26, .un .not (.t 25))]⟩] [0, 1, 5, 26])
 (.ite (.t 26)
 (.seq (.rg [⟨none, [(some 4, .mv (.c (.bool false)))]⟩] [4])
 .ret)
 .skip)))
 (.rg [⟨none, [(some 15, .mv (.t 5)), (some 16, .bin .add (.t 15) (.c (.int .i64 1))), (some 5, .mv (.t 16))]⟩] [0, 1, 5])))
def c_ref12_Same : Cd :=
 (.seq (.rg [⟨none, [(some 4, .mv (.c (.bool false)))]⟩] [0, 1])
 (.seq (.seq (.rg [⟨none, [(some 6, .mv (.t 0)), (some 7, .len (.t 6)), (some 8, .mv (.t 1)), (some 9, .len (.t 8)), (some 10, .bin .neq (.t 7) (.t 9))]⟩] [0, 1, 10])
 (.ite (.t 10)
 (.seq (.rg [⟨none, [(some 4, .mv (.c (.bool false)))]⟩] [4])
 .ret)
 .skip))
 (.seq (.seq (.rg [⟨none, [(some 5, .mv (.c (.int .i64 0)))]⟩] [0, 1, 5])
 (.block 0 (.loop c_ref12_Same_L0)))
 (.seq (.rg [⟨none, [(some 4, .mv (.c (.bool true)))]⟩] [4])
 .ret))))
theorem k_ref12_Same : Ok Tryz.prog 17 c_ref12_Same 27 [(6, 8)] [.tmp 4] := Ok.mk' Tryz.func17 (by kernel_rfl) (by kernel_rfl) (by kernel_rfl)

abbrev f_ref12_Plain : Nat := 43
def c_ref12_Plain_L0 : Cd :=
 (.seq (.seq (.rg [⟨none, [(some 5, .mv (.t 4)), (some 6, .mv (.t 0)), (some 7, .len (.t 6)), (some 8, .bin .lss (.t 5) (.t 7))]⟩] [0, 3, 4, 8])
 (.ite (.t 8)
 .skip
 (.exit 0)))
 (.seq (.block 1 (.seq (.rg [⟨none, [(some 11, .mv (.t 0)), (some 12, .mv (.t 4)), (some 13, .idxS (.t 11) (.t 12) 4), (some 14, .fldA (.t 13) 0 0), (some 15, .ld (.t 14) 1 false), (some 16, .bin .gtr (.t 15) (.c (.int .i64 2))), (some 17, .mv (.t 16))]⟩, ⟨some (17, false), [(some 18, .mv (.t 0)), (some 19, .mv (.t 4)), (some 20, .idxS (.t 18) (.t 19) 4), (some 21, .fldA (.t 20) 3 3), (some 22, .ld (.t 21) 1 false), (some 23, .len (.t 22)), (some 24, .bin .gtr (.t 23) (.c (.int .i64 0)))]⟩, ⟨none, [(some 25, .pick (.t 17) (.c (.bool true)) (.t 24))]⟩] [0, 3, 4, 25])
 (.ite (.t 25)
 (.rg [⟨none, [(some 26, .mv (.t 3)), (some 27, .mv (.t 0)), (some 28, .mv (.t 4)), (some 29, .idxS (.t 27) (.t 28) 4), (some 30, .ld (.t 29) 4 true), (some 31, .bldS 32 4 (.c (.s (.int .i64 0)) (.c (.s (.int .i64 0)) (.c (.s (.string ⟨#[]⟩)) (.c (.s (.slice none 0 0)) .u)))) [(.t 30)]), (some 32, .app 32 4 56 (.c (.s (.int .i64 0)) (.c (.s (.int .i64 0)) (.c (.s (.string ⟨#[]⟩)) (.c (.s (.slice none 0 0)) .u)))) (.t 26) (.t 31)), (some 3, .mv (.t 32))]⟩] [0, 3, 4])
 .skip)))
 (.rg [⟨none, [(some 9, .mv (.t 4)), (some 10, .bin .add (.t 9) (.c (.int .i64 1))), (some 4, .mv (.t 10))]⟩] [0, 3, 4])))
def c_ref12_Plain : Cd :=
 (.seq (.rg [⟨none, [(some 2, .mv (.c (.slice none 0 0)))]⟩] [0])
 (.seq (.rg [⟨none, [(some 3, .mv (.c (.slice none 0 0)))]⟩] [0, 3])
 (.seq (.seq (.rg [⟨none, [(none, .gh), (some 4, .mv (.c (.int .i64 0)))]⟩] [0, 3, 4])
 (.block 0 (.loop c_ref12_Plain_L0)))
 (.seq (.rg [⟨none, [(some 33, .mv (.t 3)), (some 34, .call 55 [(.t 33)]), (some 2, .mv (.t 34))]⟩] [2])
 .ret))))
theorem k_ref12_Plain : Ok Tryz.prog 43 c_ref12_Plain 35 [] [.tmp 2] := Ok.mk' Tryz.func43 (by kernel_rfl) (by kernel_rfl) (by kernel_rfl)

abbrev f_ref12_Tree_Nodes : Nat := 18
def c_ref12_Tree_Nodes : Cd :=
 (.seq (.rg [⟨none, [(some 2, .mv (.c (.slice none 0 0)))]⟩] [0])
 (.seq (.rg [⟨none, [(some 3, .mv (.t 0)), (some 4, .nilc (.t 3)), (some 5, .fldA (.t 4) 0 0), (some 6, .ld (.t 5) 1 false), (some 7, .call 43 [(.t 6)]), (some 2, .mv (.t 7))]⟩] [2])
 .ret))
theorem k_ref12_Tree_Nodes : Ok Tryz.prog 18 c_ref12_Tree_Nodes 8 [] [.tmp 2] := Ok.mk' Tryz.func18 (by kernel_rfl) (by kernel_rfl) (by kernel_rfl)

end Go.Proofs.YtnoeabmpdjpfaaaGreatDoor.Vc

/- The document's lists of nodes: compared. -/
set_option linter.unusedVariables false
set_option linter.unusedSimpArgs false
set_option maxRecDepth 100000
namespace Go.Proofs.YtnoeabmpdjpfaaaGreatDoor.Vc
open Go Go.Proofs

theorem SlR.spot {u : PH} {a : Option Addr} {n c z : Nat} {xs : List GV} (h : SlR u (.slice a n c) z xs) (hne : 0 < xs.length) :
    ∃ b o, a = some ⟨b, o, none⟩ ∧ n = xs.length ∧ n ≤ c ∧ ∀ {C : Ctx} {ph : List PH} {m : PH}, KN C.u0 (m :: ph) u → ∀ i x, xs[i]? = some x → Seen C ph m b (o + i * z) x := by
  rcases h.shape with ⟨h1, _⟩ | ⟨_, b, o, c', h1, h2, h3⟩
  · subst h1; simp at hne
  · simp only [Value.slice.injEq] at h1
    obtain ⟨rfl, rfl, rfl⟩ := h1
    exact ⟨b, o, rfl, rfl, h2, h3⟩
theorem seen_fst {C : Ctx} {ph : List PH} {m : PH} {b o : Nat} {x y : GV} (h : Seen C ph m b o (.c x y)) : Seen C ph m b o x := by
  obtain ⟨h1, cs, e, fz, h2, h3⟩ := h
  exact ⟨h1.1, cs, e, fz, h2, fun j v hj => h3 j v (by
    rw [GV.flat, List.getElem?_append_left (List.getElem?_eq_some_iff.1 hj).1]; exact hj)⟩
theorem seen_snd {C : Ctx} {ph : List PH} {m : PH} {b o k : Nat} {x y : GV} (h : Seen C ph m b o (.c x y)) (hk : k = o + x.sz) : Seen C ph m b k y := by
  obtain ⟨h1, cs, e, fz, h2, h3⟩ := h
  subst hk
  exact ⟨h1.2, cs, e, fz, h2, fun j v hj => by
    have := h3 (x.sz + j) v (by
      rw [GV.flat, List.getElem?_append_right (by rw [GV.flat_len x h1.1]; omega), GV.flat_len x h1.1, Nat.add_sub_cancel_left]; exact hj)
    rw [Nat.add_assoc]; exact this⟩
theorem seen_TN {C : Ctx} {ph : List PH} {m : PH} {b o : Nat} {t : TreeNode} (h : Seen C ph m b o (gTreeNode t)) : Seen C ph m b o (.s (.int .i64 t.node)) ∧ Seen C ph m b (o + 1) (.s (.int .i64 t.parent)) ∧ Seen C ph m b (o + 2) (.s (.string t.name)) ∧ Seen C ph m b (o + 3) (.s t.attrs) := by
  have h1 := seen_snd (k := o + 1) h rfl
  have h2 := seen_snd (k := o + 2) h1 rfl
  have h3 := seen_snd (k := o + 3) h2 rfl
  exact ⟨seen_fst h, seen_fst h1, seen_fst h2, seen_fst h3⟩
theorem seen_AT {C : Ctx} {ph : List PH} {m : PH} {b o : Nat} {t : Attr} (h : Seen C ph m b o (gAttr t)) : Seen C ph m b o (.s (.string t.key)) ∧ Seen C ph m b (o + 1) (.s (.string t.value)) :=
  ⟨seen_fst h, seen_fst (seen_snd (k := o + 1) h rfl)⟩
theorem TnOk_one {u : PH} {t : TreeNode} {l : List Attr} (h : SlR u t.attrs 2 (l.map gAttr)) : t.attrs.oneCell' = true := by
  rcases h.2 with ⟨e, _⟩ | ⟨ad, c, e, _⟩ <;> rw [e] <;> rfl

theorem rSameNode_spec (w : World) (t1 t2 : TreeNode) (a b : TN) (u : PH) (hu : u.le w) (h1 : t1.node = a.node ∧ t1.parent = a.parent ∧ t1.name = a.name ∧ SlR u t1.attrs 2 (a.attrs.map gAttr)) (h2 : t2.node = b.node ∧ t2.parent = b.parent ∧ t2.name = b.name ∧ SlR u t2.attrs 2 (b.attrs.map gAttr))
    (hb : a.attrs.length ≤ 140737488355328) :
    Spec Tryz.prog f_ref12_SameNode [(gTreeNode t1).val, (gTreeNode t2).val] PH.no w fun rs _ => rs = [.s (.bool (decide (a = b)))] := by
  refine spec_val k_ref12_SameNode (Qf := fun rs => rs = [.s (.bool (decide (a = b)))]) [.g (gTreeNode t1), .g (gTreeNode t2)] (by simp) (by simp [AV.ok, gTreeNode_ok t1 (TnOk_one h1.2.2.2), gTreeNode_ok t2 (TnOk_one h2.2.2.2)]) ?_
  obtain ⟨n1, p1, m1, la⟩ := a
  obtain ⟨n2, p2, m2, lb⟩ := b
  obtain ⟨n1', p1', m1', v1⟩ := t1
  obtain ⟨n2', p2', m2', v2⟩ := t2
  obtain ⟨e1, e2, e3, h1⟩ := h1
  obtain ⟨g1, g2, g3, h2⟩ := h2
  simp only at e1 e2 e3 g1 g2 g3 h1 h2 hb
  subst e1; subst e2; subst e3; subst g1; subst g2; subst g3
  obtain ⟨a1, c1, hv1⟩ := slr_len h1
  obtain ⟨a2, c2, hv2⟩ := slr_len h2
  rw [List.length_map] at hv1 hv2
  subst hv1; subst hv2
  simp (maxSteps := 2000000) only [c_ref12_SameNode, vc_skip, vc_ret, vc_seq, vc_block, vc_rg, vc_ite, thenQ_n, thenQ_r, kKeep_eq, segs_nil, segs_n, segs_g, ops_nil, ops_cons, vcOp, RO.isGh, skip_mk, skipL, ev, look, updL, put_mk, keep_mk, keepL, binV, binC, GV.getT, Value.oneCell', cond_true, cond_false, Nat.reduceEqDiff, ↓reduceIte, reduceCtorEq, List.nil_append, Nat.zero_add, Bool.true_and, Bool.not_false, true_and, initF, initP, finW_r, resL, resOne, ↓br_tt, ↓br_tf, ↓br_ft, br_t, br_f, getT_nil, fits_s, gTreeNode_fld0, gTreeNode_get0, gTreeNode_fld1, gTreeNode_get1, gTreeNode_fld2, gTreeNode_get2, gTreeNode_fld3, gTreeNode_get3]
  refine ⟨fun k1 => ⟨fun k2 => ⟨fun k3 => ⟨fun k4 => ?_, fun k4 => ?_⟩, fun k3 => ?_⟩, fun k2 => ?_⟩, fun k1 => ?_⟩
  · rw [bne_iff_ne] at k4
    rw [decide_eq_false fun e => k4 (by cases e; rfl)]
  · rw [bne_eq_false_iff_eq] at k1 k2 k4
    simp only [Bool.not_eq_false', decide_eq_true_eq] at k3
    have hll : la.length = lb.length := by omega
    subst k1; subst k2; subst k3
    refine vc_loop (ι := Nat) (fun i => ⟨[(2, .ref 2 []), (3, .ref 3 []), (5, .g (.s (.int .i64 (i))))], [(2, .box (gTreeNode ⟨n1', p1', m1', .slice a1 la.length c1⟩)), (3, .box (gTreeNode ⟨n1', p1', m1', .slice a2 lb.length c2⟩))], [], PH.no⟩) (fun i => i ≤ la.length ∧ la.take i = lb.take i) (fun i => la.length - i) 0 (by simp) (ge_of ?_ ?_ rfl rfl rfl) ?_
    · simp [frIn, look]
    · simp [pvIn, look]
    rintro i ⟨hi, hj⟩
    generalize hQ : loopQ _ _ _ _ _ = Q
    by_cases hlt : i < la.length
    · obtain ⟨b1, o1, rfl, _, _, s1⟩ := h1.spot (by simp; omega)
      obtain ⟨b2, o2, rfl, _, _, s2⟩ := h2.spot (by simp; omega)
      have hx1 : (la.map gAttr)[i]? = some (gAttr (la.getD i zAttr)) := by rw [List.getElem?_map, List.getD_eq_getElem?_getD, List.getElem?_eq_getElem hlt]; rfl
      have hx2 : (lb.map gAttr)[i]? = some (gAttr (lb.getD i zAttr)) := by rw [List.getElem?_map, List.getD_eq_getElem?_getD, List.getElem?_eq_getElem (by omega)]; rfl
      simp (maxSteps := 2000000) only [c_ref12_SameNode_L0, vc_skip, vc_exit, vc_seq, vc_block, vc_rg, vc_rgq, vc_ite, thenQ_n, thenQ_e, kKeep_eq, segs_nil, segs_n, ops_nil, ops_cons, qsegs_n, qops_cons, vcqOp, vcOp, isRd, ev, look, put_mk, keep_mk, keepL, binV, binC, GV.getT, Nat.reduceEqDiff, ↓reduceIte, List.nil_append, Bool.true_and, Bool.not_false, true_and, Int.toNat_natCast, decide_eq_true_eq, decide_eq_false_iff_not, br_t, getT_nil, fits_s, gTreeNode_fld3, gTreeNode_get3]
      refine ⟨fun _ => ⟨⟨by omega, by omega⟩, ld_of _ (s1 (kn_u hu) i _ hx1) (gAttr_fits _) ?_⟩, fun h => absurd (show (i : Int) < la.length by omega) h⟩
      simp (maxSteps := 2000000) only [qops_cons, vcqOp, vcOp, isRd, ev, look, put_mk, GV.getT, Nat.reduceEqDiff, ↓reduceIte, List.nil_append, Bool.true_and, Bool.not_false, true_and, Int.toNat_natCast, getT_nil, fits_s, gTreeNode_fld3, gTreeNode_get3]
      refine ⟨⟨by omega, by omega⟩, ld_of _ (s2 (kn_u hu) i _ hx2) (gAttr_fits _) ?_⟩
      simp (maxSteps := 2000000) only [segs_n, ops_cons, qsegs_nil, qops_nil, vcOp, ev, look, put_mk, Nat.reduceEqDiff, ↓reduceIte]
      refine eq_of (eqG_attr _ _) ?_
      simp (maxSteps := 2000000) only [Bool.not_eq_true', Bool.not_eq_false', decide_eq_false_iff_not, decide_eq_true_eq, vc_skip, vc_ret, vc_seq, vc_rg, vc_ite, thenQ_n, thenQ_r, blockQ_n, blockQ_r, kKeep_eq, segs_nil, segs_n, ops_nil, ops_cons, vcOp, ev, look, put_mk, keep_mk, keepL, binV, binC, Value.oneCell', cond_true, Nat.reduceEqDiff, ↓reduceIte, Bool.true_and, true_and, decide_eq_true_eq, decide_eq_false_iff_not, br_t, Bool.bne_true]
      refine ⟨fun hne => ?_, fun he => ?_⟩
      · subst hQ
        simp (maxSteps := 2000000) only [thenQ_r, blockQ_r, loopQ_r, look, ↓reduceIte, finW_r, resL, resOne]
        rw [decide_eq_false fun e => hne (by cases e; rfl)]
      · subst hQ; simp only [loopQ_n]; refine ⟨i + 1, ?_, ?_, ge_of ?_ ?_ rfl rfl rfl⟩
        · refine ⟨by omega, ?_⟩
          rw [List.take_add_one, List.take_add_one, hj]
          congr 1
          rw [List.getD_eq_getElem?_getD, List.getD_eq_getElem?_getD, List.getElem?_eq_getElem (by omega), List.getElem?_eq_getElem (by omega)] at he
          rw [List.getElem?_eq_getElem (by omega), List.getElem?_eq_getElem (by omega)]
          simpa using he
        · omega
        · simp only [frIn, look, Nat.reduceEqDiff, ↓reduceIte, Bool.and_true, Bool.true_and, true_and, and_true]
          rw [wrap_n (by omega)]
          try simp
        · simp [pvIn, look]
    · simp (maxSteps := 2000000) only [c_ref12_SameNode_L0, vc_skip, vc_exit, vc_seq, vc_block, vc_rg, vc_rgq, vc_ite, thenQ_n, thenQ_e, kKeep_eq, segs_nil, segs_n, ops_nil, ops_cons, qsegs_nil, qsegs_n, qops_nil, qops_cons, vcqOp, vcOp, isRd, ev, look, put_mk, keep_mk, keepL, rowE, rowD, binV, binC, GV.getT, Nat.reduceEqDiff, ↓reduceIte, List.nil_append, Bool.true_and, Bool.not_false, true_and, decide_eq_true_eq, decide_eq_false_iff_not, br_t, getT_nil, fits_s, gTreeNode_fld3, gTreeNode_get3]
      refine ⟨fun h => absurd (show i < la.length by omega) hlt, fun _ => ?_⟩
      subst hQ
      simp (maxSteps := 2000000) only [vc_ret, vc_seq, vc_rg, thenQ_n, blockQ_e, kKeep_eq, loopQ_e, segs_nil, segs_n, ops_nil, ops_cons, vcOp, ev, look, put_mk, keep_mk, keepL, Value.oneCell', cond_true, ↓reduceIte, finW_r, resL, resOne]
      have e1 : la.take i = la := List.take_of_length_le (by omega)
      have e2 : lb.take i = lb := List.take_of_length_le (by omega)
      rw [e1, e2] at hj
      rw [decide_eq_true (by rw [hj])]
  · rw [decide_eq_false fun e => by cases e; simp at k3]
  · rw [bne_iff_ne] at k2
    rw [decide_eq_false fun e => k2 (by cases e; rfl)]
  · rw [bne_iff_ne] at k1
    rw [decide_eq_false fun e => k1 (by cases e; rfl)]

theorem rSame_spec (w : World) (va vb : Value) (ts1 ts2 : List TreeNode) (l1 l2 : List TN) (u : PH) (hu : u.le w) (ha : SlR u va 4 (ts1.map gTreeNode)) (hb : SlR u vb 4 (ts2.map gTreeNode)) (h1 : TsOk u ts1 l1) (h2 : TsOk u ts2 l2)
    (hn : ts1.length ≤ 140737488355328) (hs1 : ∀ t ∈ l1, t.attrs.length ≤ 140737488355328) :
    Spec Tryz.prog f_ref12_Same [va, vb] PH.no w fun rs _ => rs = [.s (.bool (decide (l1 = l2)))] := by
  refine spec_val k_ref12_Same (Qf := fun rs => rs = [.s (.bool (decide (l1 = l2)))]) [.ro va 4 (gTreeNode zTreeNode) (ts1.map gTreeNode), .ro vb 4 (gTreeNode zTreeNode) (ts2.map gTreeNode)] (by simp) (by simpa [AV.ok, u0_no] using ⟨ha.up hu.sub, hb.up hu.sub⟩) ?_
  have hl1 := h1.len
  have hl2 := h2.len
  simp (maxSteps := 2000000) only [c_ref12_Same, vc_skip, vc_ret, vc_seq, vc_block, vc_rg, vc_ite, thenQ_n, thenQ_r, kKeep_eq, segs_nil, segs_n, ops_nil, ops_cons, vcOp, ev, look, put_mk, keep_mk, keepL, binV, binC, Value.oneCell', cond_true, Nat.reduceEqDiff, ↓reduceIte, reduceCtorEq, Nat.zero_add, Bool.true_and, true_and, initF, initP, finW_r, resL, resOne, br_t, List.length_map, List.length_map]
  refine ⟨fun hne => ?_, fun heq => ?_⟩
  · rw [bne_iff_ne] at hne
    rw [decide_eq_false fun e => hne (by rw [hl1, hl2, e])]
  rw [bne_eq_false_iff_eq] at heq
  refine vc_loop (ι := Nat) (fun i => ⟨[(0, .row 0 0 (ts1.length)), (1, .row 1 0 (ts2.length)), (5, .g (.s (.int .i64 (i))))], [(0, .ro 4 (gTreeNode zTreeNode) (ts1.map gTreeNode)), (1, .ro 4 (gTreeNode zTreeNode) (ts2.map gTreeNode))], [], PH.no⟩) (fun i => i ≤ ts1.length ∧ l1.take i = l2.take i) (fun i => ts1.length - i) 0 (by simp) (ge_of ?_ ?_ rfl rfl rfl) ?_
  · simp [frIn, look]
  · simp [pvIn, look]
  rintro i ⟨hi, hj⟩
  generalize hQ : loopQ _ _ _ _ _ = Q
  simp (maxSteps := 2000000) only [c_ref12_Same_L0, vc_skip, vc_exit, vc_seq, vc_block, vc_rg, vc_rgq, vc_ite, thenQ_n, thenQ_e, kKeep_eq, segs_nil, segs_n, ops_nil, ops_cons, qsegs_nil, qsegs_n, qops_nil, qops_cons, vcqOp, vcOp, isRd, ev, look, put_mk, keep_mk, keepL, rowE, rowD, binV, binC, Nat.reduceEqDiff, ↓reduceIte, reduceCtorEq, Nat.zero_add, Bool.true_and, true_and, Int.toNat_natCast, decide_eq_true_eq, decide_eq_false_iff_not, br_t, getT_nil, gTreeNode_fits, getD_gTreeNode]
  refine ⟨fun hlt => ⟨⟨by omega, by omega⟩, ⟨by omega, by omega⟩, ?_⟩, fun hlt => ?_⟩
  · have g1 := h1.at i (by omega)
    have g2 := h2.at i (by omega)
    have hm1 : l1.getD i zTN ∈ l1 := by rw [List.getD_eq_getElem?_getD, List.getElem?_eq_getElem (by omega)]; exact List.getElem_mem _
    refine call_is _ [.s (.bool (decide (l1.getD i zTN = l2.getD i zTN)))] rfl rfl (fun w' vs hv hw => ?_) ?_
    · obtain ⟨vs, rfl, _, hv⟩ := argsV_g hv
      obtain ⟨vs, rfl, _, hv⟩ := argsV_g hv
      obtain rfl := argsV_nil hv
      intro _
      exact rSameNode_spec w' _ _ _ _ u (fun b o h => hw b o (by rw [u0_no]; exact hu b o h)) g1 g2 (hs1 _ hm1)
    simp (maxSteps := 2000000) only [retS, Bool.not_eq_true', Bool.not_eq_false', decide_eq_false_iff_not, decide_eq_true_eq, vc_skip, vc_ret, vc_seq, vc_rg, vc_ite, thenQ_n, thenQ_r, blockQ_n, blockQ_r, kKeep_eq, segs_nil, segs_n, ops_nil, ops_cons, vcOp, ev, look, put_mk, keep_mk, keepL, binV, binC, unV, Value.oneCell', cond_true, Nat.reduceEqDiff, ↓reduceIte, reduceCtorEq, Bool.true_and, true_and, decide_eq_true_eq, decide_eq_false_iff_not, br_t]
    refine ⟨fun hne => ?_, fun he => ?_⟩
    · subst hQ
      simp (maxSteps := 2000000) only [thenQ_r, blockQ_r, loopQ_r, look, ↓reduceIte, finW_r, resL, resOne]
      rw [decide_eq_false fun e => hne (by rw [e])]
    · subst hQ; simp only [loopQ_n]; refine ⟨i + 1, ?_, ?_, ge_of ?_ ?_ rfl rfl rfl⟩
      · refine ⟨by omega, ?_⟩
        rw [List.take_add_one, List.take_add_one, hj]
        congr 1
        rw [List.getD_eq_getElem?_getD, List.getD_eq_getElem?_getD, List.getElem?_eq_getElem (by omega), List.getElem?_eq_getElem (by omega)] at he
        rw [List.getElem?_eq_getElem (by omega), List.getElem?_eq_getElem (by omega)]
        simpa using he
      · omega
      · simp only [frIn, look, Nat.reduceEqDiff, ↓reduceIte, reduceCtorEq, Bool.and_true, Bool.true_and, true_and, and_true]
        rw [wrap_n (by omega)]
        try simp
      · simp [pvIn, look]
  · subst hQ
    simp (maxSteps := 2000000) only [vc_ret, vc_seq, vc_rg, thenQ_n, blockQ_e, kKeep_eq, loopQ_e, segs_nil, segs_n, ops_nil, ops_cons, vcOp, ev, look, put_mk, keep_mk, keepL, Value.oneCell', cond_true, ↓reduceIte, finW_r, resL, resOne]
    have e1 : l1.take i = l1 := List.take_of_length_le (by omega)
    have e2 : l2.take i = l2 := List.take_of_length_le (by omega)
    rw [e1, e2] at hj
    rw [decide_eq_true hj]
end Go.Proofs.YtnoeabmpdjpfaaaGreatDoor.Vc

/- The document's lists of nodes: copied, looked at. -/
set_option linter.unusedVariables false
set_option linter.unusedSimpArgs false
set_option maxRecDepth 100000
namespace Go.Proofs.YtnoeabmpdjpfaaaGreatDoor.Vc
open Go Go.Proofs

theorem clone_spec (w : World) (va : Value) (ts : List TreeNode) (l : List TN) (u : PH) (hu : u.le w) (ha : SlR u va 4 (ts.map gTreeNode)) (hts : TsOk u ts l) (hn : l.length ≤ 1099511627776) (hs : ∀ t ∈ l, t.attrs.length ≤ 1099511627776) :
    Spec Tryz.prog f_ref12_clone [va] PH.no w fun rs m' => ∃ v mn ma ts', rs = [.s v] ∧ m' = uni mn ma ∧ dis mn ma ∧ SlO mn v 32 4 (ts'.map gTreeNode) ∧ TsOk ma ts' l := by
  refine spec_of k_ref12_clone [.ro va 4 (gTreeNode zTreeNode) (ts.map gTreeNode)] (by simp) (by simpa [AV.ok, u0_no] using ha.up hu.sub) ?_
  have hlts := hts.len
  simp (maxSteps := 2000000) only [c_ref12_clone, vc_seq, vc_rg, thenQ_n, kKeep_eq, segs_nil, segs_n, ops_nil, ops_cons, vcOp, ev, look, put_mk, keep_mk, keepL, Value.oneCell', cond_true, ↓reduceIte, reduceCtorEq, initF, initP, List.length_map, List.length_map]
  refine gh_nil 3 3 32 4 (gTreeNode zTreeNode) rfl rfl ?_
  simp (maxSteps := 2000000) only [vc_block, thenQ_n, kKeep_eq, segs_nil, ops_nil, ops_cons, vcOp, ev, look, put_mk, keep_mk, keepL, Value.oneCell', cond_true, Nat.reduceEqDiff, ↓reduceIte, reduceCtorEq]
  refine vc_loop (ι := Nat × List TreeNode × PH) (fun q => ⟨[(0, .row 0 0 (ts.length)), (3, .row 3 0 (q.2.1.length)), (4, .g (.s (.int .i64 (q.1))))], [(0, .ro 4 (gTreeNode zTreeNode) (ts.map gTreeNode)), (3, .row 32 4 (gTreeNode zTreeNode) (q.2.1.map gTreeNode))], [], q.2.2⟩)
    (fun q => q.1 ≤ ts.length ∧ q.2.1.length = q.1 ∧ TsOk q.2.2 q.2.1 (l.take q.1)) (fun q => ts.length - q.1) (0, [], PH.no) ⟨by simp, rfl, trivial⟩ (ge_of ?_ ?_ rfl rfl rfl) ?_
  · simp [frIn, look]
  · simp [pvIn, look]
  rintro ⟨i, os, mA⟩ ⟨hi, hol, hos⟩
  simp only at hi hol hos
  generalize hQ : loopQ _ _ _ _ _ = Q
  simp (maxSteps := 2000000) only [c_ref12_clone_L0, vc_skip, vc_exit, vc_seq, vc_block, vc_rg, vc_ite, thenQ_n, thenQ_e, kKeep_eq, segs_nil, segs_n, ops_nil, ops_cons, vcOp, ev, look, updL, put_mk, put_mk0, keep_mk, keepL, rowE, rowD, binV, binC, GV.getT, Nat.reduceEqDiff, ↓reduceIte, reduceCtorEq, List.nil_append, Nat.zero_add, Bool.and_true, Bool.true_and, Bool.not_false, true_and, and_true, Int.toNat_natCast, decide_eq_true_eq, decide_eq_false_iff_not, br_t, getT_nil, setT_nil, fits_s, gTreeNode_sz, gTreeNode_fits, gTreeNode_same, gTreeNode_fld3, gTreeNode_get3, gTreeNode_zero, getD_gTreeNode]
  refine ⟨fun hlt => ⟨⟨by omega, by omega⟩, ?_⟩, fun hge => ?_⟩
  · obtain ⟨t, ht⟩ : ∃ t, ts.getD i zTreeNode = t := ⟨_, rfl⟩
    obtain ⟨r, hr⟩ : ∃ r, l.getD i zTN = r := ⟨_, rfl⟩
    have hrm : r ∈ l := by rw [← hr, List.getD_eq_getElem?_getD, List.getElem?_eq_getElem (by omega)]; exact List.getElem_mem _
    obtain ⟨e1, e2, e3, hsl⟩ := hts.at i (by omega)
    rw [ht, hr] at e1 e2 e3 hsl
    have htake : l.take (i + 1) = l.take i ++ [r] := by
      rw [List.take_add_one, ← hr, List.getD_eq_getElem?_getD, List.getElem?_eq_getElem (by omega)]; rfl
    have hal := hs r hrm
    rw [ht]
    refine gh_rk 17 17 (gAttr zAttr) rfl rfl hsl (kn_u hu) ?_
    simp (maxSteps := 2000000) only [List.length_map, ops_cons, vcOp, ev, look, rowE, Value.oneCell', cond_true, ↓reduceIte, Bool.true_and, true_and, List.drop_zero, List.length_map, List.length_map]
    rw [List.take_of_length_le (by simp)]
    refine app_nil rfl rfl (by omega) ?_
    simp (maxSteps := 2000000) only [ops_cons, vcOp, updL, Nat.reduceEqDiff, ↓reduceIte, reduceCtorEq]
    refine gh_pub 18 18 r.attrs.length rfl rfl (by simp) fun v u2 hv hso hd2 => ?_
    simp (maxSteps := 2000000) only [dropK, vc_rg, thenQ_n, blockQ_n, kKeep_eq, segs_nil, segs_n, ops_nil, ops_cons, vcOp, ev, evL, gvL, look, updL, put_mk, put_mk0, keep_mk, keepL, rowE, binV, binC, GV.getT, GV.sz, GV.same, Value.oneCell', cond_true, cond_false, Nat.reduceEqDiff, Nat.reduceBEq, ↓reduceIte, reduceCtorEq, List.nil_append, Nat.zero_add, Bool.and_true, Bool.true_and, BEq.rfl, true_and, and_true, Option.map_some, szAll, List.length_cons, List.length_nil, kill, SV.mentions, ne_eq, not_false_eq_true, List.drop_zero, List.take_succ_cons, List.take_zero, getT_nil, List.length_map, gTreeNode_sz, gTreeNode_fits, gTreeNode_fld3, gTreeNode_get3, gTreeNode_set3, List.length_map]
    refine ⟨by omega, ?_⟩
    subst hQ; simp only [loopQ_n]; refine ⟨(i + 1, os ++ [⟨t.node, t.parent, t.name, v⟩], uni u2 mA), ?_, ?_, ge_of ?_ ?_ rfl rfl rfl⟩
    · refine ⟨by simp only; omega, by simp only [List.length_append, List.length_cons, List.length_nil]; omega, ?_⟩
      simp only
      rw [htake]
      exact TsOk.snoc (t := ⟨t.node, t.parent, t.name, v⟩) ⟨e1, e2, e3, hso.toR.up (sub_uni_l _ _)⟩ (hos.up (sub_uni_r hd2))
    · simp only; omega
    · simp only [frIn, look, Nat.reduceEqDiff, ↓reduceIte, reduceCtorEq, Nat.zero_add, Bool.and_true, Bool.true_and, true_and, and_true, List.length_cons, List.length_nil, List.length_append, List.length_cons, List.length_nil]
      rw [wrap_n (by omega)]
      try simp
    · simp only [pvIn, look, Nat.reduceEqDiff, ↓reduceIte, reduceCtorEq, Bool.and_true, and_true, List.map_cons, List.map_nil, List.map_append, List.map_cons, List.map_nil]
      try simp
      try rfl
  · subst hQ
    simp (maxSteps := 2000000) only [vc_seq, vc_rg, thenQ_n, blockQ_e, loopQ_e, segs_n, ops_cons, vcOp, ev, look, put_mk, ↓reduceIte, reduceCtorEq]
    refine gh_pub 24 3 os.length rfl rfl (by simp) fun v u2 hv hso hd2 => ?_
    simp (maxSteps := 2000000) only [vc_ret, thenQ_n, kKeep_eq, finQ_r, segs_nil, ops_nil, ops_cons, vcOp, ev, look, put_mk, keep_mk, keepL, cond_true, cond_false, Nat.reduceBEq, ↓reduceIte, BEq.rfl, kill, SV.mentions]
    have hi' : i = l.length := by omega
    rw [hi', List.take_length] at hos
    exact fin_m (rs := [.s v]) _ rfl (fun _ _ h => h) ⟨v, u2, mA, os, rfl, rfl, hd2, hso, hos⟩

/-! ### Attributes -/
end Go.Proofs.YtnoeabmpdjpfaaaGreatDoor.Vc

/- The document's tree: where it lies; a node found in it. -/
set_option linter.unusedVariables false
set_option linter.unusedSimpArgs false
set_option maxRecDepth 100000
namespace Go.Proofs.YtnoeabmpdjpfaaaGreatDoor.Vc
open Go Go.Proofs

/-- What it was ahead: rows in memory of their own, their attributes in A. -/
def Olds (A : PH) : PH → List Value → List (List TN) → Prop
  | m, [], [] => m = PH.no
  | m, v :: vs, l :: ls => v.oneCell' = true ∧ ∃ mn mr ts, m = uni mn mr ∧ dis mn mr ∧ SlO mn v 32 4 (ts.map gTreeNode) ∧ TsOk A ts l ∧ l ≠ [] ∧ Olds A mr vs ls
  | _, _, _ => False
theorem Olds.up {A B : PH} (hs : PH.sub A B) : ∀ {m : PH} {vs : List Value} {ls : List (List TN)}, Olds A m vs ls → Olds B m vs ls
  | _, [], [], h => h
  | _, _ :: _, _ :: _, ⟨h0, mn, mr, ts, h1, h2, h3, h4, h5, h6⟩ => ⟨h0, mn, mr, ts, h1, h2, h3, h4.up hs, h5, h6.up hs⟩
  | _, [], _ :: _, h => h.elim
  | _, _ :: _, [], h => h.elim
theorem Olds.len {A : PH} : ∀ {m : PH} {vs : List Value} {ls : List (List TN)}, Olds A m vs ls → vs.length = ls.length
  | _, [], [], _ => rfl
  | _, _ :: _, _ :: _, ⟨_, _, _, _, _, _, _, _, _, h6⟩ => by simp [h6.len]
  | _, [], _ :: _, h => h.elim
  | _, _ :: _, [], h => h.elim
theorem Olds.snoc {A : PH} {v : Value} {l : List TN} {mv : PH} {tv : List TreeNode} (hv1 : v.oneCell' = true) (hv : SlO mv v 32 4 (tv.map gTreeNode)) (htv : TsOk A tv l) (hl : l ≠ []) : ∀ {m : PH} {vs : List Value} {ls : List (List TN)}, Olds A m vs ls → dis mv m → Olds A (uni m mv) (vs ++ [v]) (ls ++ [l])
  | _, [], [], h, hd => by
    cases h
    exact ⟨hv1, mv, PH.no, tv, by rw [uni_no, uni_no_r], dis_no_r _, hv, htv, hl, rfl⟩
  | _, x :: vs, y :: ls, ⟨h0, mn, mr, ts, h1, h2, h3, h4, h5, h6⟩, hd => by
    subst h1
    obtain ⟨d1, d2⟩ := dis_of_uni_r hd
    exact ⟨h0, mn, uni mr mv, ts, uni_assoc _ _ _, dis_uni_r h2 (dis_comm d1), h3, h4, h5, Olds.snoc hv1 hv htv hl h6 d2⟩
  | _, [], _ :: _, h, _ => h.elim
  | _, _ :: _, [], h, _ => h.elim

/-- The tree: its two cells, its rows, what it was ahead; the attributes lie in A. -/
structure RMp (A : PH) (b : Nat) (l : List TN) (ls : List (List TN)) (nv wv : Value) (e : TypeId) (mn mw mo : PH) (ts : List TreeNode) (vs : List Value) : Prop where
  d1 : dis (one b (.cells #[nv, wv] e (0, 0))) (uni mn (uni mw mo))
  d2 : dis mn (uni mw mo)
  d3 : dis mw mo
  rows : SlO mn nv 32 4 (ts.map gTreeNode)
  told : TsOk A ts l
  ne : l ≠ []
  was : SlO mw wv 28 1 (vs.map GV.s)
  olds : Olds A mo vs ls
def RM (A m : PH) (b : Nat) (l : List TN) (ls : List (List TN)) : Prop := ∃ nv wv e mn mw mo ts vs, m = uni (one b (.cells #[nv, wv] e (0, 0))) (uni mn (uni mw mo)) ∧ RMp A b l ls nv wv e mn mw mo ts vs
/-- The tree, its attributes with it. -/
def RC (m : PH) (b : Nat) (l : List TN) (ls : List (List TN)) : Prop := ∃ m1 A, m = uni m1 A ∧ dis m1 A ∧ RM A m1 b l ls
theorem RM.up {A B m : PH} {b : Nat} {l : List TN} {ls : List (List TN)} (h : RM A m b l ls) (hs : PH.sub A B) : RM B m b l ls := by
  obtain ⟨nv, wv, e, mn, mw, mo, ts, vs, h1, h2⟩ := h
  exact ⟨nv, wv, e, mn, mw, mo, ts, vs, h1, ⟨h2.d1, h2.d2, h2.d3, h2.rows, h2.told.up hs, h2.ne, h2.was, h2.olds.up hs⟩⟩

/-- The first place with a number at least n. -/
def findL : List TN → Int → Nat
  | [], _ => 0
  | t :: l, n => if t.node < n then findL l n + 1 else 0
def isL (l : List TN) (n : Int) : Bool := match l[findL l n]? with
  | Option.some t => t.node == n
  | Option.none => false
theorem findL_le : ∀ (l : List TN) (n : Int), findL l n ≤ l.length
  | [], _ => Nat.le_refl _
  | t :: l, n => by
    rw [findL]
    split
    · have := findL_le l n; simp; omega
    · simp
theorem findL_lt : ∀ (l : List TN) (n : Int) (i : Nat), i < findL l n → (l.getD i zTN).node < n
  | [], _, i, h => by simp [findL] at h
  | t :: l, n, i, h => by
    rw [findL] at h
    split at h
    · rename_i ht
      cases i with
      | zero => simpa using ht
      | succ i => simpa using findL_lt l n i (by omega)
    · omega
theorem findL_at : ∀ (l : List TN) (n : Int), findL l n < l.length → ¬ (l.getD (findL l n) zTN).node < n
  | [], _, h => by simp [findL] at h
  | t :: l, n, h => by
    rw [findL] at h ⊢
    split at h
    · rename_i ht
      rw [if_pos ht]
      simpa using findL_at l n (by simpa using h)
    · rename_i ht
      rw [if_neg ht]; simpa using ht
theorem findL_stop {l : List TN} {n : Int} {i : Nat} (h1 : ∀ j, j < i → (l.getD j zTN).node < n) (h2 : i ≤ l.length) (h3 : i < l.length → ¬ (l.getD i zTN).node < n) : i = findL l n := by
  have ha := findL_le l n
  rcases Nat.lt_trichotomy i (findL l n) with h | h | h
  · exact absurd (findL_lt l n i h) (h3 (by omega))
  · exact h
  · exact absurd (h1 _ h) (findL_at l n (by omega))

section
variable {w : World}
/-- What the tree's first cell holds, and its rows. -/
theorem RM.look {A m : PH} {b : Nat} {l : List TN} {ls : List (List TN)} (h : RM A m b l ls) : ∃ (b2 o2 c : Nat) (ts : List TreeNode), ts.length = l.length ∧ 0 < l.length ∧ TsOk A ts l ∧ SlR m (.slice (Option.some ⟨b2, o2, none⟩) l.length c) 4 (ts.map gTreeNode) ∧
    (∀ {C : Ctx} {ph : List PH} {m' : PH}, KN C.u0 (m' :: ph) m → Seen C ph m' b 0 (.s (.slice (Option.some ⟨b2, o2, none⟩) l.length c))) ∧
    ∀ {C : Ctx} {ph : List PH} {m' : PH}, KN C.u0 (m' :: ph) m → ∀ i, i < l.length → Seen C ph m' b2 (o2 + i * 4) (gTreeNode (ts.getD i zTreeNode)) := by
  obtain ⟨nv, wv, e, mn, mw, mo, ts, vs, rfl, p⟩ := h
  have hl := p.told.len
  have h0 : 0 < l.length := List.length_pos_iff.2 p.ne
  obtain ⟨a, c, hv⟩ := slr_len p.rows.toR
  rw [List.length_map, hl] at hv
  subst hv
  obtain ⟨b2, o2, rfl, _, _, hs⟩ := p.rows.toR.spot (by simp; omega)
  have sub1 : PH.sub mn (uni (one b (.cells #[.slice (Option.some ⟨b2, o2, none⟩) l.length c, wv] e (0, 0))) (uni mn (uni mw mo))) := PH.sub_trans (sub_uni_l _ _) (sub_uni_r p.d1)
  refine ⟨b2, o2, c, ts, hl, h0, p.told, p.rows.toR.up sub1, fun hk => seen_cell hk (sub_uni_l _ _ _ _ (one_self _ _)) rfl rfl, fun hk i hi => ?_⟩
  refine hs (fun bb o hb => hk bb o (sub1 bb o hb)) i _ ?_
  rw [List.getElem?_map, List.getD_eq_getElem?_getD, List.getElem?_eq_getElem (by omega)]; rfl

theorem find_spec (w : World) (A m : PH) (hm : m.le w) (b : Nat) (l : List TN) (ls : List (List TN)) (h : RM A m b l ls) (n : Int) (hl : l.length ≤ 140737488355328) :
    Spec Tryz.prog f_ref12_Tree_find [ptr b, .int .i64 n] PH.no w fun rs _ => rs = [.s (.int .i64 (findL l n)), .s (.bool (isL l n))] := by
  refine spec_val k_ref12_Tree_find (Qf := fun rs => rs = [.s (.int .i64 (findL l n)), .s (.bool (isL l n))]) [.g (.s (ptr b)), .g (.s (.int .i64 n))] (by simp) (by simp [AV.ok, GV.ok, Value.oneCell', ptr]) ?_
  obtain ⟨b2, o2, c, ts, hlts, h0, hts, _, hs0, hsi⟩ := h.look
  have hk : ∀ {l : List PH}, KN (⟨Tryz.prog, 48, w, PH.no⟩ : Ctx).u0 l m := kn_u hm
  have hnode : ∀ i, i < l.length → (ts.getD i zTreeNode).node = (l.getD i zTN).node := fun i hi => (hts.at i (by omega)).1
  simp (maxSteps := 2000000) only [c_ref12_Tree_find, vc_seq, vc_block, vc_rg, thenQ_n, kKeep_eq, segs_nil, segs_n, ops_nil, ops_cons, vcOp, ev, look, put_mk, keep_mk, keepL, Value.oneCell', cond_true, Nat.reduceEqDiff, ↓reduceIte, reduceCtorEq, Nat.zero_add, initF, initP, ptr]
  refine vc_loop (ι := Nat) (fun i => ⟨[(0, .g (.s (.pointer (Option.some ⟨b, 0, none⟩)))), (1, .g (.s (.int .i64 (n)))), (6, .g (.s (.int .i64 (i))))], [], [], PH.no⟩) (fun i => i ≤ l.length ∧ ∀ j, j < i → (l.getD j zTN).node < n) (fun i => l.length - i) 0 (by simp) (ge_of ?_ ?_ rfl rfl rfl) ?_
  · simp [frIn, look, ptr]
  · simp [pvIn, look]
  rintro i ⟨hi, hj⟩
  generalize hQ : loopQ _ _ _ _ _ = Q
  simp (maxSteps := 2000000) only [c_ref12_Tree_find_L0, vc_seq, vc_rg, segs_n, ops_cons, vcOp, ev, look, put_mk, Nat.reduceEqDiff, ↓reduceIte, reduceCtorEq, Nat.add_zero]
  refine ld_of _ (hs0 hk) rfl ?_
  simp (maxSteps := 2000000) only [vc_exit, vc_ite, thenQ_n, thenQ_e, kKeep_eq, segs_nil, segs_n, segs_g, ops_nil, ops_cons, vcOp, RO.isGh, skip_mk, skipL, ev, look, put_mk, keep_mk, keepL, binV, binC, Value.oneCell', cond_true, cond_false, Nat.reduceEqDiff, ↓reduceIte, reduceCtorEq, Nat.add_zero, Bool.true_and, Bool.not_true, true_and, decide_eq_true_eq, decide_eq_false_iff_not, ↓br_ft, br_t]
  have fin : ∀ x : SV, i = findL l n → Q (.exit 0) ⟨[(0, .g (.s (.pointer (Option.some ⟨b, 0, none⟩)))), (1, .g (.s (.int .i64 (n)))), (6, .g (.s (.int .i64 (i)))), (25, x)], [], [], PH.no⟩ := by
    intro x he
    subst hQ
    simp (maxSteps := 2000000) only [vc_seq, vc_rgq, thenQ_n, blockQ_e, loopQ_e, qsegs_n, qops_cons, vcqOp, vcOp, isRd, ev, look, put_mk, Nat.reduceEqDiff, ↓reduceIte, reduceCtorEq, Nat.add_zero, Bool.true_and, true_and]
    refine ld_of _ (hs0 hk) rfl ?_
    simp (maxSteps := 2000000) only [vc_ret, thenQ_n, kKeep_eq, segs_nil, segs_n, ops_nil, ops_cons, qsegs_nil, qsegs_n, qsegs_g, qops_nil, qops_cons, vcqOp, vcOp, isRd, RO.isGh, skip_mk, skipL, ev, look, put_mk, keep_mk, keepL, binV, binC, Value.oneCell', cond_true, cond_false, Nat.reduceEqDiff, ↓reduceIte, reduceCtorEq, Nat.add_zero, Bool.true_and, Bool.not_true, true_and, finW_r, resL, resOne, decide_eq_true_eq, decide_eq_false_iff_not, ↓br_ft, br_t]
    by_cases hlt : i < l.length
    · refine ⟨fun _ => ?_, fun h => absurd (show (i : Int) < l.length by omega) h⟩
      refine ld_of _ (hs0 hk) rfl ?_
      simp (maxSteps := 2000000) only [qops_cons, vcqOp, vcOp, isRd, ev, look, put_mk, Nat.reduceEqDiff, ↓reduceIte, reduceCtorEq, Nat.add_zero, Bool.true_and, true_and, Int.toNat_natCast]
      refine ⟨⟨by omega, by omega⟩, ld_of _ (seen_TN (hsi hk i hlt)).1 rfl ?_⟩
      simp (maxSteps := 2000000) only [vc_ret, thenQ_n, kKeep_eq, segs_nil, segs_n, ops_nil, ops_cons, qsegs_nil, qsegs_n, qops_nil, qops_cons, vcqOp, vcOp, isRd, ev, look, put_mk, keep_mk, keepL, binV, binC, Value.oneCell', cond_true, Nat.reduceEqDiff, ↓reduceIte, reduceCtorEq, Bool.true_and, true_and, finW_r, resL, resOne, ↓br_tt]
      rw [hnode i hlt, ← he, isL, ← he]
      rw [List.getD_eq_getElem?_getD, List.getElem?_eq_getElem hlt]; rfl
    · refine ⟨fun h => absurd (show i < l.length by omega) hlt, fun _ => ?_⟩
      rw [← he, isL, ← he]
      rw [List.getElem?_eq_none (by omega)]
  refine ⟨fun hlt => ?_, fun hge => ?_⟩
  · have hlt : i < l.length := by omega
    refine ld_of _ (hs0 hk) rfl ?_
    simp (maxSteps := 2000000) only [ops_cons, vcOp, ev, look, put_mk, Nat.reduceEqDiff, ↓reduceIte, reduceCtorEq, Nat.add_zero, Int.toNat_natCast]
    refine ⟨⟨by omega, by omega⟩, ld_of _ (seen_TN (hsi hk i hlt)).1 rfl ?_⟩
    simp (maxSteps := 2000000) only [vc_skip, vc_exit, vc_block, vc_rg, vc_ite, thenQ_n, thenQ_e, blockQ_n, kKeep_eq, segs_nil, segs_n, ops_nil, ops_cons, vcOp, ev, look, put_mk, keep_mk, keepL, binV, binC, Value.oneCell', cond_true, Nat.reduceEqDiff, ↓reduceIte, reduceCtorEq, Bool.true_and, true_and, decide_eq_true_eq, decide_eq_false_iff_not, ↓br_tt, br_t]
    rw [hnode i hlt]
    refine ⟨fun h1 => ?_, fun h1 => ?_⟩
    · subst hQ; simp only [loopQ_n]; refine ⟨i + 1, ?_, ?_, ge_of ?_ ?_ rfl rfl rfl⟩
      · refine ⟨by omega, fun j hj' => ?_⟩
        rcases Nat.lt_or_ge j i with h | h
        · exact hj j h
        · rw [show j = i by omega]; exact h1
      · omega
      · simp only [frIn, look, Nat.reduceEqDiff, ↓reduceIte, reduceCtorEq, Bool.and_true, Bool.true_and, true_and, and_true]
        rw [wrap_n (by omega)]
        try simp
      · simp [pvIn, look]
    · exact fin _ (findL_stop hj hi fun _ => h1)
  · exact fin _ (findL_stop hj hi fun h => absurd h (by omega))
end
end Go.Proofs.YtnoeabmpdjpfaaaGreatDoor.Vc

/- The document's tree: begun; a node put into it. -/
set_option linter.unusedVariables false
set_option linter.unusedSimpArgs false
set_option maxRecDepth 100000
namespace Go.Proofs.YtnoeabmpdjpfaaaGreatDoor.Vc
open Go Go.Proofs

theorem SlO.stored {u : PH} {b o n c : Nat} {e : TypeId} {z : Nat} {xs : List GV} (h : SlO u (.slice (some ⟨b, o, none⟩) n c) e z xs) {i : Nat} (hi : i < xs.length) {y : GV} (hy : y.ok) (hz : y.sz = z) :
    ∃ cs, u b = some (.cells cs e (0, 0)) ∧ o + i * z + z ≤ cs.size ∧ SlO (u.upd b (.cells (writeAt cs (o + i * z) y.flat) e (0, 0))) (.slice (some ⟨b, o, none⟩) n c) e z (xs.set i y) := by
  obtain ⟨hels, ⟨h1, rfl⟩ | ⟨a, c', h1, h2, h3⟩⟩ := h
  · simp at hi
  · simp only [Value.slice.injEq, Option.some.injEq] at h1
    obtain ⟨rfl, rfl, rfl⟩ := h1
    obtain ⟨cs, g1, g2, g3, g4⟩ := h3 (by omega)
    simp only at g2 g3 g4
    have hfl : y.flat.length = z := by rw [GV.flat_len y hy, hz]
    have hsz : o + i * z + z ≤ cs.size := by
      have h5 : (i + 1) * z ≤ c * z := Nat.mul_le_mul_right z (by omega)
      rw [Nat.succ_mul] at h5
      omega
    refine ⟨cs, g3, hsz, hels.set hy hz, .inr ⟨⟨b, o, none⟩, c, by rw [List.length_set], by rw [List.length_set]; exact h2, fun hc => ⟨writeAt cs (o + i * z) y.flat, rfl, by rw [writeAt_size]; exact g2, upd_self _ _ _, fun j v hj => ?_⟩⟩⟩
    have hx : xs[i]? = some xs[i] := List.getElem?_eq_getElem hi
    have := flats_set hels hx hz hy j v hj
    rw [writeAt_get _ _ _ _ (by rw [hfl]; exact hsz), hfl]
    simp only at this ⊢
    split at this
    · rename_i hb
      rw [if_pos (by omega), show o + j - (o + i * z) = j - i * z by omega]
      exact this
    · rename_i hb
      rw [if_neg (by omega)]
      exact g4 j v this
theorem SlR.cut {u : PH} {b o n c : Nat} {z : Nat} {xs : List GV} (h : SlR u (.slice (some ⟨b, o, none⟩) n c) z xs) {lo hi : Nat} (h1 : lo ≤ hi) (h2 : hi ≤ n) : SlR u (.slice (some ⟨b, if c = lo then o else o + lo * z, none⟩) (hi - lo) (c - lo)) z ((xs.drop lo).take (hi - lo)) := by
  obtain ⟨hels, ⟨h3, rfl⟩ | ⟨a, c', h3, h4, h5⟩⟩ := h
  · simp at h3
  · simp only [Value.slice.injEq, Option.some.injEq] at h3
    obtain ⟨rfl, rfl, rfl⟩ := h3
    refine ⟨hels.part _ _, .inr ⟨⟨b, if c = lo then o else o + lo * z, none⟩, c - lo, by rw [List.length_take, List.length_drop]; congr 1; omega, by rw [List.length_take, List.length_drop]; omega, fun hc => ?_⟩⟩
    obtain ⟨cs, e, fz, g1, g2, g3⟩ := h5 (by omega)
    simp only at g2 g3 ⊢
    rw [if_neg (by omega)]
    refine ⟨cs, e, fz, trivial, g2, fun j v hj => ?_⟩
    rw [Nat.add_assoc]
    exact g3 _ _ (flats_part hels (by omega) j v hj)

def T0L : List TN := [⟨1, 0, ⟨#[]⟩, []⟩, ⟨2, 0, ⟨#[]⟩, []⟩]
theorem SlR.nil (u : PH) (z : Nat) : SlR u (.slice none 0 0) z [] := ⟨fun x hx => by simp at hx, .inl ⟨rfl, rfl⟩⟩
theorem SlO.nil (u : PH) (e : TypeId) (z : Nat) : SlO u (.slice none 0 0) e z [] := ⟨fun x hx => by simp at hx, .inl ⟨rfl, rfl⟩⟩
theorem rNew_spec (w : World) (A : PH) : Spec Tryz.prog f_ref12_New [] PH.no w fun rs m' => ∃ b, rs = [.s (ptr b)] ∧ RM A m' b T0L [] := by
  refine spec_of k_ref12_New [] (by simp) (by simp [AV.ok]) ?_
  simp (maxSteps := 2000000) only [c_ref12_New, vc_seq, vc_rg, thenQ_n, kKeep_eq, segs_nil, segs_n, ops_nil, ops_cons, vcOp, ev, evL, gvL, look, updL, put_mk, keep_mk, keepL, GV.getT, Value.oneCell', cond_true, Nat.reduceEqDiff, Nat.reduceAdd, ↓reduceIte, Nat.zero_add, Bool.and_true, Bool.true_and, true_and, and_true, initF, initP, List.map_cons, List.map_nil, Option.map_some, szAll, List.length_cons, List.length_nil, Int.reduceAdd, GV.bldT, GV.bldC, same_int, gTreeNode_sz, gTreeNode_get0, gTreeNode_set0, gTreeNode_zero, ptr]
  refine ⟨rfl, rfl, ?_⟩
  refine gh_pub 3 3 2 rfl rfl rfl fun v u hv hs hd => ?_
  simp (maxSteps := 2000000) only [dropK, ops_cons, vcOp, ev, evL, gvL, look, updL, put_mk, GV.getT, GV.same, GV.setT, cond_true, cond_false, ↓reduceIte, Bool.and_true, Bool.true_and, BEq.rfl, true_and, and_true, List.map_cons, List.map_nil, Option.map_some, kill, SV.mentions, GV.bldT, GV.bldC]
  refine ⟨rfl, ?_⟩
  refine gh_pubBox 5 5 rfl rfl fun v2 u2 hv2 hp hd2 => ?_
  obtain ⟨hok, b, e, rfl, rfl⟩ := hp
  simp (maxSteps := 2000000) only [vc_ret, thenQ_n, kKeep_eq, finQ_r, segs_nil, ops_nil, ops_cons, vcOp, ev, look, put_mk, keep_mk, keepL, cond_true, cond_false, ↓reduceIte, BEq.rfl, kill, SV.mentions]
  rw [uni_no_r] at hd2 ⊢
  refine fin_m _ rfl (fun _ _ h => h) ⟨b, rfl, v, .slice none 0 0, e, u, PH.no, PH.no, [⟨1, 0, ⟨#[]⟩, .slice none 0 0⟩, ⟨2, 0, ⟨#[]⟩, .slice none 0 0⟩], [], ?_, ⟨?_, dis_no_r _, dis_no _, hs, ⟨⟨rfl, rfl, rfl, SlR.nil _ _⟩, ⟨rfl, rfl, rfl, SlR.nil _ _⟩, trivial⟩, by simp [T0L], SlO.nil _ _ _, rfl⟩⟩
  · rw [uni_no, uni_no_r]; rfl
  · rw [uni_no, uni_no_r]; exact hd2

theorem uni_upd_l (a r : PH) (b : Nat) (o : Obj) : (uni a r).upd b o = uni (a.upd b o) r := by
  funext j
  by_cases h : j = b
  · subst h; simp [PH.upd, uni]
  · simp [PH.upd, uni, h]
theorem dis_upd_l {a r : PH} {b : Nat} {o : Obj} (h : dis a r) (ha : a b ≠ none) : dis (a.upd b o) r := fun j => by
  by_cases e : j = b
  · subst e; exact .inr ((h j).resolve_left ha)
  · rw [upd_ne e]; exact h j
theorem TsOk.set {A : PH} {t : TreeNode} {a : TN} (ht : t.node = a.node ∧ t.parent = a.parent ∧ t.name = a.name ∧ SlR A t.attrs 2 (a.attrs.map gAttr)) : ∀ {ts : List TreeNode} {l : List TN} {i : Nat}, TsOk A ts l → TsOk A (ts.set i t) (l.set i a)
  | [], [], _, _ => trivial
  | _ :: _, _ :: _, 0, h => ⟨ht, h.2⟩
  | _ :: _, _ :: _, i + 1, h => ⟨h.1, h.2.set ht⟩
  | [], _ :: _, _, h => h.elim
  | _ :: _, [], _, h => h.elim
theorem TsOk.ins {A : PH} {t : TreeNode} {a : TN} (ht : t.node = a.node ∧ t.parent = a.parent ∧ t.name = a.name ∧ SlR A t.attrs 2 (a.attrs.map gAttr)) : ∀ {ts : List TreeNode} {l : List TN} (i : Nat), TsOk A ts l → TsOk A (ts.take i ++ t :: ts.drop i) (l.take i ++ a :: l.drop i)
  | [], [], i, _ => by simp; exact ⟨ht, trivial⟩
  | x :: ts, y :: l, 0, h => ⟨ht, h⟩
  | x :: ts, y :: l, i + 1, h => ⟨h.1, h.2.ins ht i⟩
  | [], _ :: _, _, h => h.elim
  | _ :: _, [], _, h => h.elim
/-- A node in its place, in that of one with its number. -/
def putL (l : List TN) (a : TN) : List TN := if isL l a.node = true then l.set (findL l a.node) a else l.take (findL l a.node) ++ a :: l.drop (findL l a.node)

theorem rput_spec (w : World) (A m : PH) (b : Nat) (l : List TN) (ls : List (List TN)) (h : RM A m b l ls) (t : TreeNode) (a : TN) (ht : t.node = a.node ∧ t.parent = a.parent ∧ t.name = a.name ∧ SlR A t.attrs 2 (a.attrs.map gAttr)) (hl : l.length ≤ 1099511627776) :
    Spec Tryz.prog f_ref12_Tree_put [ptr b, (gTreeNode t).val] m w fun rs m' => rs = [] ∧ RM A m' b (putL l a) ls := by
  refine spec_of k_ref12_Tree_put [.g (.s (ptr b)), .g (gTreeNode t)] (by simp) (by simp [AV.ok, GV.ok, Value.oneCell', ptr, gTreeNode_ok t (TnOk_one ht.2.2.2)]) ?_
  simp (maxSteps := 2000000) only [c_ref12_Tree_put, vc_seq, vc_rg, thenQ_n, kKeep_eq, segs_nil, segs_n, ops_nil, ops_cons, vcOp, ev, look, updL, put_mk, keep_mk, keepL, GV.getT, Nat.reduceEqDiff, ↓reduceIte, reduceCtorEq, List.nil_append, Nat.zero_add, Bool.true_and, Bool.not_false, true_and, initF, initP, getT_nil, fits_s, gTreeNode_fld0, gTreeNode_get0, gTreeNode_zero, ptr]
  refine call_ism _ [.s (.int .i64 (findL l t.node)), .s (.bool (isL l t.node))] rfl rfl (fun w' vs hv _ _ hm => ?_) ?_
  · obtain ⟨vs, rfl, _, hv⟩ := argsV_g hv
    obtain ⟨vs, rfl, _, hv⟩ := argsV_g hv
    obtain rfl := argsV_nil hv
    exact find_spec w' A m hm b l ls h t.node (by omega)
  simp (maxSteps := 2000000) only [retS, List.getElem?_cons_zero, List.getElem?_cons_succ, vc_skip, vc_seq, vc_rg, vc_rgq, vc_ite, thenQ_n, kKeep_eq, segs_nil, segs_n, ops_nil, ops_cons, qsegs_n, qops_cons, vcqOp, vcOp, isRd, ev, look, put_mk, keep_mk, keepL, Nat.reduceEqDiff, ↓reduceIte, reduceCtorEq, Nat.add_zero, Bool.true_and, true_and, br_t]
  have hfl := findL_le l t.node
  have hlk := h.look
  obtain ⟨nv, wv, e, mn, mw, mo, ts, vs, rfl, p⟩ := h
  have hlts := p.told.len
  have hlen0 : 0 < l.length := List.length_pos_iff.2 p.ne
  obtain ⟨a0, c, hnv⟩ := slr_len p.rows.toR
  rw [List.length_map, hlts] at hnv
  subst hnv
  obtain ⟨b2, o2, rfl, _, hc, _⟩ := p.rows.toR.spot (by simp; omega)
  obtain ⟨d1, d2, d3, hrows, htold, hne, hwas, holds⟩ := p
  have hd1n := dis_of_uni_r d1
  have hcell : ∀ {C : Ctx} {ph : List PH}, Seen C ph (uni (one b (.cells #[.slice (some ⟨b2, o2, none⟩) l.length c, wv] e (0, 0))) (uni mn (uni mw mo))) b 0 (.s (.slice (some ⟨b2, o2, none⟩) l.length c)) := fun {C ph} => seen_cell kn_m (sub_uni_l _ _ _ _ (one_self _ _)) rfl rfl
  refine ⟨fun his => ?_, fun hno => ?_⟩
  · have hlt : findL l t.node < l.length := by
      rcases Nat.lt_or_ge (findL l t.node) l.length with h | h
      · exact h
      · rw [isL, List.getElem?_eq_none h] at his; cases his
    refine ld_of _ hcell rfl ?_
    simp (maxSteps := 2000000) only [segs_n, ops_cons, qsegs_nil, qops_nil, qops_cons, vcqOp, vcOp, isRd, ev, look, put_mk, Nat.reduceEqDiff, ↓reduceIte, reduceCtorEq, Bool.true_and, true_and, Int.toNat_natCast, getT_nil, gTreeNode_fits]
    refine ⟨⟨by omega, by omega⟩, ?_⟩
    obtain ⟨cs, g1, g2, g3⟩ := hrows.stored (i := findL l t.node) (by simp; omega) (gTreeNode_ok t (TnOk_one ht.2.2.2)) (gTreeNode_sz t)
    have hb2 : (one b (.cells #[.slice (some ⟨b2, o2, none⟩) l.length c, wv] e (0, 0))) b2 = none := by
      rcases hd1n.1 b2 with q | q
      · exact q
      · rw [g1] at q; cases q
    refine st_of (gTreeNode_sz t) cs 32 ⟨by simp only [uni, hb2, Option.none_or, g1, Option.some_or], g2⟩ ?_
    simp (maxSteps := 2000000) only [vc_ret, thenQ_n, thenQ_r, kKeep_eq, finQ_r, segs_nil, ops_nil, put_mk0, keep_mk, keepL]
    rw [uni_upd hb2, uni_upd_l]
    refine fin_m _ rfl (fun _ _ h => h) ⟨rfl, _, _, _, _, _, _, ts.set (findL l t.node) t, vs, rfl, ⟨?_, dis_upd_l d2 (by rw [g1]; simp), d3, ?_, ?_, ?_, hwas, holds⟩⟩
    · rw [← uni_upd_l]; exact dis_upd d1 hb2
    · rw [List.map_set]; exact g3
    · rw [putL, ← ht.1, if_pos his]; exact htold.set ht
    · rw [putL, ← ht.1, if_pos his]
      intro e
      have := congrArg List.length e
      simp only [List.length_set, List.length_nil] at this
      omega
  · refine ld_of _ hcell rfl ?_
    simp (maxSteps := 2000000) only [ops_cons, vcOp, ev, look, put_mk, bndN, Nat.reduceEqDiff, Nat.reduceMul, ↓reduceIte, reduceCtorEq, Nat.add_zero, Int.toNat_natCast]
    refine ⟨by omega, ?_⟩
    have hM : uni (one b (.cells #[.slice (some ⟨b2, o2, none⟩) l.length c, wv] e (0, 0))) (uni mn (uni mw mo)) = uni mn (uni (one b (.cells #[.slice (some ⟨b2, o2, none⟩) l.length c, wv] e (0, 0))) (uni mw mo)) := by rw [← uni_assoc, uni_comm hd1n.1, uni_assoc]
    refine gh_frz hM (dis_uni_r (dis_comm hd1n.1) d2) ?_
    simp (maxSteps := 2000000) only [ops_cons, vcOp]
    have hlo : SlR mn (.slice (some ⟨b2, if c = 0 then o2 else o2 + 0 * 4, none⟩) (findL l t.node - 0) (c - 0)) 4 ((ts.take (findL l t.node)).map gTreeNode) := by
      have := hrows.toR.cut (lo := 0) (hi := findL l t.node) (by omega) (by omega)
      rw [Nat.sub_zero, List.drop_zero] at this
      rw [List.map_take]; exact this
    have hhi : SlR mn (.slice (some ⟨b2, if c = findL l t.node then o2 else o2 + findL l t.node * 4, none⟩) (l.length - findL l t.node) (c - findL l t.node)) 4 ((ts.drop (findL l t.node)).map gTreeNode) := by
      have := hrows.toR.cut (lo := findL l t.node) (hi := l.length) (by omega) (by omega)
      rw [List.map_drop]
      rw [List.take_of_length_le (by simp; omega)] at this
      exact this
    refine gh_rk 27 27 (gTreeNode zTreeNode) rfl rfl hlo (KN.mem (by simp)) ?_
    simp (maxSteps := 2000000) only [List.length_map, ops_cons, vcOp, ev, look, rowE, Value.oneCell', cond_true, ↓reduceIte, Bool.true_and, true_and, List.drop_zero, List.length_map, List.length_map]
    have hlt1 : (ts.take (findL l t.node)).length = findL l t.node := by rw [List.length_take]; omega
    have hlt2 : (ts.drop (findL l t.node)).length = l.length - findL l t.node := by rw [List.length_drop]; omega
    have tk : ∀ ys : List TreeNode, List.take ys.length (ys.map gTreeNode) = ys.map gTreeNode := fun ys => List.take_of_length_le (by simp)
    rw [tk]
    refine app_nil rfl rfl (by omega) ?_
    simp (maxSteps := 2000000) only [List.length_map, vc_seq, vc_rg, thenQ_n, kKeep_eq, segs_nil, segs_n, ops_nil, ops_cons, vcOp, ev, evL, gvL, look, updL, put_mk, keep_mk, keepL, rowE, cond_true, cond_false, Nat.reduceEqDiff, Nat.reduceBEq, ↓reduceIte, reduceCtorEq, Nat.zero_add, Nat.add_zero, Bool.and_true, Bool.true_and, BEq.rfl, true_and, and_true, Option.map_some, szAll, List.length_cons, List.length_nil, kill, SV.mentions, ne_eq, not_false_eq_true, List.drop_zero, List.take_succ_cons, List.take_zero, getT_nil, List.length_map, gTreeNode_sz, gTreeNode_fits, List.length_map]
    refine ⟨by omega, ?_⟩
    refine ld_of _ (seen_cell kn_m (sub_uni_l _ _ _ _ (one_self _ _)) rfl rfl) rfl ?_
    simp (maxSteps := 2000000) only [ops_cons, vcOp, ev, look, put_mk, rowE, bndN, Nat.reduceEqDiff, ↓reduceIte, reduceCtorEq, Int.toNat_natCast]
    refine ⟨by omega, ?_⟩
    refine gh_rk 40 40 (gTreeNode zTreeNode) rfl rfl (by simpa using hhi) (KN.mem (by simp)) ?_
    simp (maxSteps := 2000000) only [List.length_map, List.length_append, ops_cons, vcOp, ev, look, updL, put_mk, rowE, cond_true, cond_false, Nat.reduceEqDiff, Nat.reduceBEq, ↓reduceIte, Nat.zero_add, Bool.and_true, Bool.true_and, BEq.rfl, true_and, and_true, List.length_cons, List.length_nil, kill, SV.mentions, ne_eq, not_false_eq_true, List.drop_zero, List.length_map, List.length_map]
    refine ⟨by simp only [List.length_drop, List.length_map]; omega, ?_⟩
    refine gh_pub 41 28 _ rfl rfl ?_ fun v u hv hs hd => ?_
    · simp only [List.length_append, List.length_map, List.length_cons, List.length_nil, List.length_take, List.length_drop]; omega
    simp (maxSteps := 2000000) only [ops_cons, vcOp, ev, look, put_mk, cond_true, cond_false, Nat.reduceEqDiff, Nat.reduceBEq, ↓reduceIte, Nat.add_zero, BEq.rfl, kill, SV.mentions]
    obtain ⟨e1, e2⟩ := dis_of_uni_r hd
    have hub : u b = none := by
      rcases e1 b with q | q
      · exact q
      · rw [one_self] at q; cases q
    refine st_of rfl #[.slice (some ⟨b2, o2, none⟩) l.length c, wv] e ⟨by simp only [uni, hub, Option.none_or, one_self, Option.some_or], by simp⟩ ?_
    simp (maxSteps := 2000000) only [kKeep_eq, finQ_n, segs_nil, ops_nil, put_mk0, keep_mk, keepL]
    rw [uni_upd hub, uni_one_upd]
    have hM2 : uni u (uni (one b (.cells #[v, wv] e (0, 0))) (uni mw mo)) = uni (one b (.cells #[v, wv] e (0, 0))) (uni u (uni mw mo)) := by
      rw [← uni_assoc, uni_comm (dis_comm (dis_one_of (dis_comm e1))), uni_assoc]
    refine fin_m (uni (one b (.cells #[v, wv] e (0, 0))) (uni u (uni mw mo))) rfl (by intro x y hxy; rw [← hM2] at hxy; exact hxy) ⟨rfl, v, wv, e, u, mw, mo, ts.take (findL l t.node) ++ t :: ts.drop (findL l t.node), vs, rfl, ⟨dis_uni_r (dis_one_of (dis_comm e1)) (dis_one_of hd1n.2), e2, d3, ?_, ?_, ?_, hwas, holds⟩⟩
    · have := hs
      simp only [List.map_append, List.map_cons, List.map_drop, List.append_assoc, List.cons_append, List.nil_append] at this ⊢
      rw [List.take_length] at this
      exact this
    · rw [putL, ← ht.1, hno, if_neg (by simp)]; exact htold.ins ht _
    · rw [putL, ← ht.1, hno, if_neg (by simp)]; simp
end Go.Proofs.YtnoeabmpdjpfaaaGreatDoor.Vc

/- The document's lists of nodes: told plainly; an attribute set. -/
set_option linter.unusedVariables false
set_option linter.unusedSimpArgs false
set_option maxRecDepth 100000
namespace Go.Proofs.YtnoeabmpdjpfaaaGreatDoor.Vc
open Go Go.Proofs

def plainL (l : List TN) : List TN := l.filter fun t => decide (t.node > 2) || decide (0 < t.attrs.length)

theorem Plain_spec (w : World) (va : Value) (ts : List TreeNode) (l : List TN) (u : PH) (hu : u.le w) (ha : SlR u va 4 (ts.map gTreeNode)) (hts : TsOk u ts l) (hn : l.length ≤ 1099511627776) (hs : ∀ t ∈ l, t.attrs.length ≤ 1099511627776) :
    Spec Tryz.prog f_ref12_Plain [va] PH.no w fun rs m' => ∃ v ts', rs = [.s v] ∧ SlR m' v 4 (ts'.map gTreeNode) ∧ TsOk m' ts' (plainL l) := by
  refine spec_of k_ref12_Plain [.ro va 4 (gTreeNode zTreeNode) (ts.map gTreeNode)] (by simp) (by simpa [AV.ok, u0_no] using ha.up hu.sub) ?_
  have hlts := hts.len
  simp (maxSteps := 2000000) only [c_ref12_Plain, vc_seq, vc_rg, thenQ_n, kKeep_eq, segs_nil, segs_n, ops_nil, ops_cons, vcOp, ev, look, put_mk, keep_mk, keepL, Value.oneCell', cond_true, ↓reduceIte, reduceCtorEq, initF, initP, List.length_map, List.length_map]
  refine gh_nil 3 3 32 4 (gTreeNode zTreeNode) rfl rfl ?_
  simp (maxSteps := 2000000) only [vc_block, thenQ_n, kKeep_eq, segs_nil, ops_nil, ops_cons, vcOp, ev, look, put_mk, keep_mk, keepL, Value.oneCell', cond_true, Nat.reduceEqDiff, ↓reduceIte, reduceCtorEq]
  refine vc_loop (ι := Nat × List TreeNode) (fun q => ⟨[(0, .row 0 0 (ts.length)), (3, .row 3 0 (q.2.length)), (4, .g (.s (.int .i64 (q.1))))], [(0, .ro 4 (gTreeNode zTreeNode) (ts.map gTreeNode)), (3, .row 32 4 (gTreeNode zTreeNode) (q.2.map gTreeNode))], [], PH.no⟩)
    (fun q => q.1 ≤ ts.length ∧ q.2.length ≤ q.1 ∧ TsOk u q.2 (plainL (l.take q.1))) (fun q => ts.length - q.1) (0, []) ⟨by simp, by simp, trivial⟩ (ge_of ?_ ?_ rfl rfl rfl) ?_
  · simp [frIn, look]
  · simp [pvIn, look]
  rintro ⟨i, os⟩ ⟨hi, hol, hos⟩
  simp only at hi hol hos
  generalize hQ : loopQ _ _ _ _ _ = Q
  simp (maxSteps := 2000000) only [c_ref12_Plain_L0, vc_skip, vc_exit, vc_seq, vc_block, vc_rg, vc_ite, thenQ_n, thenQ_e, blockQ_n, kKeep_eq, segs_nil, segs_n, segs_g, ops_nil, ops_cons, vcOp, RO.isGh, skip_mk, skipL, ev, evL, gvL, look, updL, put_mk, keep_mk, keepL, rowE, rowD, binV, binC, GV.getT, Value.oneCell', cond_true, cond_false, Nat.reduceEqDiff, Nat.reduceBEq, ↓reduceIte, reduceCtorEq, List.nil_append, Nat.zero_add, Bool.and_true, Bool.true_and, Bool.not_false, BEq.rfl, true_and, and_true, Option.map_some, szAll, List.length_cons, List.length_nil, Int.toNat_natCast, decide_eq_true_eq, decide_eq_false_iff_not, kill, SV.mentions, ne_eq, not_false_eq_true, List.drop_zero, List.take_succ_cons, List.take_zero, ↓br_tt, ↓br_ft, br_t, br_f, getT_nil, List.length_map, fits_s, gTreeNode_sz, gTreeNode_fits, gTreeNode_fld0, gTreeNode_get0, gTreeNode_fld3, gTreeNode_get3, gTreeNode_zero, getD_gTreeNode, List.length_map]
  refine ⟨fun hlt => ⟨⟨by omega, by omega⟩, ?_⟩, fun hge => ?_⟩
  · obtain ⟨t, ht⟩ : ∃ t, ts.getD i zTreeNode = t := ⟨_, rfl⟩
    obtain ⟨r, hr⟩ : ∃ r, l.getD i zTN = r := ⟨_, rfl⟩
    have hrm : r ∈ l := by rw [← hr, List.getD_eq_getElem?_getD, List.getElem?_eq_getElem (by omega)]; exact List.getElem_mem _
    obtain ⟨e1, e2, e3, hsl⟩ := hts.at i (by omega)
    rw [ht, hr] at e1 e2 e3 hsl
    have htake : plainL (l.take (i + 1)) = plainL (l.take i) ++ if (decide (r.node > 2) || decide (0 < r.attrs.length)) = true then [r] else [] := by
      rw [List.take_add_one]
      have : l[i]?.toList = [r] := by rw [← hr, List.getD_eq_getElem?_getD, List.getElem?_eq_getElem (by omega)]; rfl
      rw [this, plainL, List.filter_append, List.filter_cons]
      rfl
    obtain ⟨a, c, hv⟩ := slr_len hsl
    rw [List.length_map] at hv
    rw [ht]
    have yes : (decide (r.node > 2) || decide (0 < r.attrs.length)) = true → ∀ (fr : List (Nat × SV)) (pv : List (Nat × PV)), frIn fr [(0, .row 0 0 (ts.length)), (3, .row 3 0 (os.length + 1)), (4, .g (.s (.int .i64 ((i + 1 : Nat)))))] →
        pvIn pv [(0, .ro 4 (gTreeNode zTreeNode) (ts.map gTreeNode)), (3, .row 32 4 (gTreeNode zTreeNode) (os.map gTreeNode ++ [gTreeNode t]))] → Q .normal ⟨fr, pv, [], PH.no⟩ := by
      intro hy fr pv hfr hpv
      subst hQ; simp only [loopQ_n]
      refine ⟨(i + 1, os ++ [t]), ⟨by simp only; omega, by simp; omega, ?_⟩, by simp only; omega, ge_of (by simpa using hfr) (by simpa using hpv) rfl rfl rfl⟩
      simp only
      rw [htake, if_pos hy]
      exact hos.snoc ⟨e1, e2, e3, hsl⟩
    have no : (decide (r.node > 2) || decide (0 < r.attrs.length)) = false → ∀ (fr : List (Nat × SV)) (pv : List (Nat × PV)), frIn fr [(0, .row 0 0 (ts.length)), (3, .row 3 0 (os.length)), (4, .g (.s (.int .i64 ((i + 1 : Nat)))))] →
        pvIn pv [(0, .ro 4 (gTreeNode zTreeNode) (ts.map gTreeNode)), (3, .row 32 4 (gTreeNode zTreeNode) (os.map gTreeNode))] → Q .normal ⟨fr, pv, [], PH.no⟩ := by
      intro hy fr pv hfr hpv
      subst hQ; simp only [loopQ_n]
      refine ⟨(i + 1, os), ⟨by simp only; omega, by simp only; omega, ?_⟩, by simp only; omega, ge_of hfr hpv rfl rfl rfl⟩
      simp only
      rw [htake, hy]
      simpa using hos
    obtain ⟨tn, tp, tm, tv⟩ := t
    simp only at e1 e2 e3 hsl hv
    subst hv
    simp (maxSteps := 2000000) only []
    rw [← e1] at yes no
    refine ⟨fun k1 => ⟨⟨by omega, by omega⟩, fun k2 => ⟨⟨by omega, by omega⟩, by omega, yes ?_ _ _ ?_ ?_⟩, fun k2 => no ?_ _ _ ?_ ?_⟩, fun k1 => ⟨⟨by omega, by omega⟩, by omega, yes ?_ _ _ ?_ ?_⟩⟩
    · rw [decide_eq_false k1, decide_eq_true (by omega)]; rfl
    · simp only [frIn, look, Nat.reduceEqDiff, ↓reduceIte, reduceCtorEq, Bool.and_true, Bool.true_and, true_and, and_true]
      rw [wrap_n (by omega)]
      try simp
    · simp [pvIn, look]
    · rw [decide_eq_false k1, decide_eq_false (by omega)]; rfl
    · simp only [frIn, look, Nat.reduceEqDiff, ↓reduceIte, reduceCtorEq, Bool.and_true, Bool.true_and, true_and, and_true]
      rw [wrap_n (by omega)]
      try simp
    · simp [pvIn, look]
    · rw [decide_eq_true k1]; rfl
    · simp only [frIn, look, Nat.reduceEqDiff, ↓reduceIte, reduceCtorEq, Bool.and_true, Bool.true_and, true_and, and_true]
      rw [wrap_n (by omega)]
      try simp
    · simp [pvIn, look]
  · subst hQ
    simp (maxSteps := 2000000) only [vc_seq, vc_rg, thenQ_n, blockQ_e, loopQ_e, segs_n, ops_cons, vcOp, ev, look, put_mk, ↓reduceIte, reduceCtorEq]
    refine call_ownm rfl rfl (Q := fun rs m' => ∃ v mn ma ts', rs = [.s v] ∧ m' = uni mn ma ∧ dis mn ma ∧ SlO mn v 32 4 (ts'.map gTreeNode) ∧ TsOk ma ts' (plainL l)) (fun w' vs hv hw _ _ => ?_) fun rs m1 _ hq _ => ?_
    · obtain ⟨v1, vs, rfl, k1, hv⟩ := argsV_row (z := 4) (xs := os.map gTreeNode) rfl (by simp) hv
      obtain rfl := argsV_nil hv
      have hi' : i = l.length := by omega
      rw [hi', List.take_length] at hos
      have h1 : PH.sub u w'.ph := fun b o h => hw b o (by rw [u0_no]; exact hu b o h)
      have h2 := hos.len
      have h3 : (plainL l).length ≤ l.length := List.length_filter_le _ _
      exact clone_spec w' v1 os (plainL l) w'.ph (fun _ _ h => h) k1 (hos.up h1) (by omega) fun t ht => hs t (List.mem_filter.1 ht).1
    obtain ⟨v, mn, ma, ts', rfl, rfl, hd, h1, h2⟩ := hq
    simp (maxSteps := 2000000) only [retS, uni_no_r, vc_ret, thenQ_n, kKeep_eq, finQ_r, segs_nil, ops_nil, ops_cons, vcOp, ev, look, put_mk, keep_mk, keepL, ↓reduceIte]
    exact fin_m (rs := [.s v]) _ rfl (fun _ _ h => h) ⟨v, ts', rfl, h1.toR.up (sub_uni_l _ _), h2.up (sub_uni_r hd)⟩

theorem rNodes_spec (w : World) (A m : PH) (hm : m.le w) (hA : A.le w) (b : Nat) (l : List TN) (ls : List (List TN)) (h : RM A m b l ls) (hn : l.length ≤ 1099511627776) (hs : ∀ t ∈ l, t.attrs.length ≤ 1099511627776) :
    Spec Tryz.prog f_ref12_Tree_Nodes [ptr b] PH.no w fun rs m' => ∃ v ts', rs = [.s v] ∧ SlR m' v 4 (ts'.map gTreeNode) ∧ TsOk m' ts' (plainL l) := by
  refine spec_of k_ref12_Tree_Nodes [.g (.s (ptr b))] (by simp) (by simp [AV.ok, GV.ok, Value.oneCell', ptr]) ?_
  obtain ⟨b2, o2, c, ts, hlts, h0, hts, hsl, hs0, _⟩ := h.look
  have hk : ∀ {l : List PH}, KN (⟨Tryz.prog, 8, w, PH.no⟩ : Ctx).u0 l m := kn_u hm
  simp (maxSteps := 2000000) only [c_ref12_Tree_Nodes, vc_seq, vc_rg, thenQ_n, kKeep_eq, segs_nil, segs_n, ops_nil, ops_cons, vcOp, ev, look, put_mk, keep_mk, keepL, Value.oneCell', cond_true, ↓reduceIte, reduceCtorEq, Nat.add_zero, initF, initP, ptr]
  refine ld_of _ (hs0 hk) rfl ?_
  simp (maxSteps := 2000000) only [ops_cons, vcOp, put_mk]
  refine call_ownm rfl rfl (Q := fun rs m' => ∃ v ts', rs = [.s v] ∧ SlR m' v 4 (ts'.map gTreeNode) ∧ TsOk m' ts' (plainL l)) (fun w' vs hv hw _ _ => ?_) fun rs m1 _ hq _ => ?_
  · obtain ⟨vs, rfl, _, hv⟩ := argsV_g hv
    obtain rfl := argsV_nil hv
    have sm : PH.sub m w'.ph := fun b o h => hw b o (by rw [u0_no]; exact hm b o h)
    have sA : PH.sub A w'.ph := fun b o h => hw b o (by rw [u0_no]; exact hA b o h)
    exact Plain_spec w' _ ts l w'.ph (fun _ _ h => h) (hsl.up sm) (hts.up sA) hn hs
  obtain ⟨v, ts', rfl, h1, h2⟩ := hq
  simp (maxSteps := 2000000) only [retS, uni_no_r, vc_ret, thenQ_n, kKeep_eq, finQ_r, segs_nil, ops_nil, ops_cons, vcOp, ev, look, put_mk, keep_mk, keepL, ↓reduceIte]
  exact fin_m (rs := [.s v]) _ rfl (fun _ _ h => h) ⟨v, ts', rfl, h1, h2⟩

/-! ### set -/
def setG (key value : ByteArray) : List Attr → Bool → List Attr
  | [], d => if d = true then [] else [⟨key, value⟩]
  | a :: l, d => (if (!d && !_root_.Go.Op.bytesLess a.key.data.toList key.data.toList) = true then [⟨key, value⟩] else []) ++ (if a.key = key then [] else [a]) ++ setG key value l (d || !_root_.Go.Op.bytesLess a.key.data.toList key.data.toList)
def setL (l : List Attr) (key value : ByteArray) : List Attr := setG key value l (decide (value = ⟨#[]⟩))
theorem setG_len (key value : ByteArray) : ∀ (l : List Attr) (d : Bool), (setG key value l d).length ≤ l.length + if d = true then 0 else 1
  | [], d => by cases d <;> simp [setG]
  | a :: l, d => by
    have ih := setG_len key value l (d || !_root_.Go.Op.bytesLess a.key.data.toList key.data.toList)
    have h1 : (if a.key = key then ([] : List Attr) else [a]).length ≤ 1 := by split <;> simp
    rw [setG]
    simp only [List.length_append, List.length_cons]
    generalize _root_.Go.Op.bytesLess a.key.data.toList key.data.toList = bb at *
    cases d <;> cases bb <;> simp at ih ⊢ <;> omega

theorem set_spec (w : World) (v : Value) (l : List Attr) (key value : ByteArray) (u : PH) (hu : u.le w) (h : SlR u v 2 (l.map gAttr)) (hl : l.length ≤ 1099511627776) :
    Spec Tryz.prog f_ref12_set [v, .string key, .string value] PH.no w fun rs m' => ∃ v', rs = [.s v'] ∧ SlO m' v' 55 2 ((setL l key value).map gAttr) := by
  refine spec_of k_ref12_set [.ro v 2 (gAttr zAttr) (l.map gAttr), .g (.s (.string key)), .g (.s (.string value))] (by simp) (by simpa [AV.ok, u0_no, GV.ok, Value.oneCell'] using h.up hu.sub) ?_
  simp (maxSteps := 2000000) only [c_ref12_set, vc_seq, vc_rg, thenQ_n, kKeep_eq, segs_nil, segs_n, ops_nil, ops_cons, vcOp, ev, look, put_mk, keep_mk, keepL, Value.oneCell', cond_true, Nat.reduceEqDiff, Nat.reduceAdd, ↓reduceIte, reduceCtorEq, Nat.zero_add, initF, initP, Int.reduceAdd, List.length_map, List.length_map]
  refine gh_nil 7 7 55 2 (gAttr zAttr) rfl rfl ?_
  simp (maxSteps := 2000000) only [vc_seq, vc_block, vc_rg, thenQ_n, kKeep_eq, segs_nil, segs_n, ops_nil, ops_cons, vcOp, ev, look, put_mk, keep_mk, keepL, binV, binC, Value.oneCell', cond_true, Nat.reduceEqDiff, ↓reduceIte, reduceCtorEq, Bool.true_and, true_and]
  have h0 := setG_len key value l (decide (value = ⟨#[]⟩))
  refine vc_loop (ι := Nat × List Attr × Bool) (fun q => ⟨[(0, .row 0 0 (l.length)), (1, .g (.s (.string (key)))), (2, .g (.s (.string (value)))), (7, .row 7 0 (q.2.1.length)), (8, .g (.s (.bool (q.2.2)))), (9, .g (.s (.int .i64 (q.1))))], [(0, .ro 2 (gAttr zAttr) (l.map gAttr)), (7, .row 55 2 (gAttr zAttr) (q.2.1.map gAttr))], [], PH.no⟩)
    (fun q => q.1 ≤ l.length ∧ setL l key value = q.2.1 ++ setG key value (l.drop q.1) q.2.2) (fun q => l.length - q.1) (0, [], decide (value = ⟨#[]⟩)) ⟨by simp, by simp [setL]⟩ (ge_of ?_ ?_ rfl rfl rfl) ?_
  · simp [frIn, look]
  · simp [pvIn, look]
  rintro ⟨i, os, d⟩ ⟨hi, hj⟩
  simp only at hi hj
  generalize hQ : loopQ _ _ _ _ _ = Q
  have hos : os.length ≤ l.length + 1 := by
    have := congrArg List.length hj
    rw [List.length_append, setL] at this
    split at h0 <;> omega
  simp (maxSteps := 2000000) only [c_ref12_set_L0, vc_skip, vc_exit, vc_seq, vc_block, vc_rg, vc_ite, thenQ_n, thenQ_e, blockQ_n, kKeep_eq, segs_nil, segs_n, segs_g, ops_nil, ops_cons, vcOp, RO.isGh, skip_mk, skipL, ev, evL, gvL, look, updL, put_mk, keep_mk, keepL, rowE, rowD, binV, binC, unV, GV.getT, GV.sz, GV.same, GV.setT, Value.oneCell', cond_true, cond_false, Nat.reduceEqDiff, Nat.reduceAdd, Nat.reduceBEq, ↓reduceIte, reduceCtorEq, List.nil_append, Nat.zero_add, Nat.add_zero, Bool.and_true, Bool.true_and, Bool.not_true, Bool.not_false, BEq.rfl, true_and, and_true, List.map_cons, List.map_nil, Option.map_some, szAll, List.length_cons, List.length_nil, Int.toNat_natCast, Int.reduceAdd, decide_eq_true_eq, decide_eq_false_iff_not, kill, SV.mentions, ne_eq, not_false_eq_true, List.drop_zero, List.take_succ_cons, List.take_zero, ↓br_tt, ↓br_ft, br_t, GV.bldT, GV.bldC, getT_nil, List.length_map, fits_s, gAttr_sz, gAttr_fits, gAttr_fld0, gAttr_get0, getD_gAttr, List.length_map]
  refine ⟨fun hlt => ?_, fun hge => ?_⟩
  · obtain ⟨a, ha⟩ : ∃ a, l.getD i zAttr = a := ⟨_, rfl⟩
    have hdrop : l.drop i = a :: l.drop (i + 1) := by
      rw [← ha, List.getD_eq_getElem?_getD, List.getElem?_eq_getElem (by omega)]
      exact List.drop_eq_getElem_cons (by omega)
    rw [hdrop, setG] at hj
    rw [ha]
    have go : ∀ (os' : List Attr) (d' : Bool), setL l key value = os' ++ setG key value (l.drop (i + 1)) d' → ∀ (fr : List (Nat × SV)) (pv : List (Nat × PV)), frIn fr [(0, .row 0 0 (l.length)), (1, .g (.s (.string (key)))), (2, .g (.s (.string (value)))), (7, .row 7 0 (os'.length)), (8, .g (.s (.bool (d')))), (9, .g (.s (.int .i64 ((i + 1 : Nat)))))] →
        pvIn pv [(0, .ro 2 (gAttr zAttr) (l.map gAttr)), (7, .row 55 2 (gAttr zAttr) (os'.map gAttr))] → Q .normal ⟨fr, pv, [], PH.no⟩ := by
      intro os' d' h1 fr pv hfr hpv
      subst hQ; simp only [loopQ_n]
      exact ⟨(i + 1, os', d'), ⟨by simp only; omega, h1⟩, by simp only; omega, ge_of hfr hpv rfl rfl rfl⟩
    generalize hb : _root_.Go.Op.bytesLess a.key.data.toList key.data.toList = bb at hj
    have hdk : (!decide (a.key = key)) = decide (a.key ≠ key) := by simp
    refine ⟨fun k1 => ⟨⟨by omega, by omega⟩, fun k2 => ⟨⟨rfl, rfl⟩, by omega, ⟨by omega, by omega⟩, fun k3 => ⟨⟨by omega, by omega⟩, by simp, by omega, ?_⟩, fun k3 => ?_⟩, fun k2 => ⟨⟨by omega, by omega⟩, fun k3 => ⟨⟨by omega, by omega⟩, by omega, ?_⟩, fun k3 => ?_⟩⟩, fun k1 => ⟨⟨by omega, by omega⟩, fun k3 => ⟨⟨by omega, by omega⟩, by omega, ?_⟩, fun k3 => ?_⟩⟩
    all_goals rw [hb] at *
    all_goals simp only [Bool.not_eq_true', Bool.not_eq_false', decide_eq_false_iff_not, decide_eq_true_eq] at *
    · refine go (os ++ [⟨key, value⟩] ++ [a]) true (by rw [hj, k1, k2, if_neg k3]; simp) _ _ ?_ ?_
      · simp only [frIn, look, Nat.reduceEqDiff, ↓reduceIte, reduceCtorEq, Nat.zero_add, Bool.and_true, Bool.true_and, true_and, and_true, List.length_cons, List.length_nil, List.length_append, List.length_cons, List.length_nil]
        rw [wrap_n (by omega)]
        try simp
      · simp only [pvIn, look, ↓reduceIte, reduceCtorEq, Bool.and_true, Bool.true_and, true_and, and_true, List.map_cons, List.map_nil, List.map_append, List.map_cons, List.map_nil]
        try simp
        try rfl
    · refine go (os ++ [⟨key, value⟩]) true (by rw [hj, k1, k2, if_pos k3]; simp) _ _ ?_ ?_
      · simp only [frIn, look, Nat.reduceEqDiff, ↓reduceIte, reduceCtorEq, Nat.zero_add, Bool.and_true, Bool.true_and, true_and, and_true, List.length_cons, List.length_nil, List.length_append, List.length_cons, List.length_nil]
        rw [wrap_n (by omega)]
        try simp
      · simp only [pvIn, look, ↓reduceIte, reduceCtorEq, Bool.and_true, Bool.true_and, true_and, and_true, List.map_cons, List.map_nil, List.map_append, List.map_cons, List.map_nil]
        try simp
        try rfl
    · refine go (os ++ [a]) d (by rw [hj, k1, k2, if_neg k3]; simp) _ _ ?_ ?_
      · simp only [frIn, look, Nat.reduceEqDiff, ↓reduceIte, reduceCtorEq, Nat.zero_add, Bool.and_true, Bool.true_and, true_and, and_true, List.length_cons, List.length_nil, List.length_append, List.length_cons, List.length_nil]
        rw [wrap_n (by omega)]
        try simp
      · simp only [pvIn, look, ↓reduceIte, reduceCtorEq, Bool.and_true, and_true, List.map_cons, List.map_nil, List.map_append, List.map_cons, List.map_nil]
        try simp
        try rfl
    · refine go (os) d (by rw [hj, k1, k2, if_pos k3]; simp) _ _ ?_ ?_
      · simp only [frIn, look, Nat.reduceEqDiff, ↓reduceIte, reduceCtorEq, Bool.and_true, Bool.true_and, true_and, and_true]
        rw [wrap_n (by omega)]
        try simp
      · simp only [pvIn, look, ↓reduceIte, reduceCtorEq, Bool.and_true, and_true]
        try simp
        try rfl
    · refine go (os ++ [a]) d (by rw [hj, k1, if_neg k3]; simp) _ _ ?_ ?_
      · simp only [frIn, look, Nat.reduceEqDiff, ↓reduceIte, reduceCtorEq, Nat.zero_add, Bool.and_true, Bool.true_and, true_and, and_true, List.length_cons, List.length_nil, List.length_append, List.length_cons, List.length_nil]
        rw [wrap_n (by omega)]
        try simp
      · simp only [pvIn, look, ↓reduceIte, reduceCtorEq, Bool.and_true, and_true, List.map_cons, List.map_nil, List.map_append, List.map_cons, List.map_nil]
        try simp
        try rfl
    · refine go (os) d (by rw [hj, k1, if_pos k3]; simp) _ _ ?_ ?_
      · simp only [frIn, look, Nat.reduceEqDiff, ↓reduceIte, reduceCtorEq, Bool.and_true, Bool.true_and, true_and, and_true]
        rw [wrap_n (by omega)]
        try simp
      · simp only [pvIn, look, ↓reduceIte, reduceCtorEq, Bool.and_true, and_true]
        try simp
        try rfl
  · subst hQ
    simp (maxSteps := 2000000) only [vc_skip, vc_seq, vc_rg, vc_ite, thenQ_n, blockQ_e, kKeep_eq, loopQ_e, segs_nil, segs_n, ops_nil, ops_cons, vcOp, ev, evL, gvL, look, updL, put_mk, keep_mk, keepL, rowE, unV, GV.getT, GV.sz, GV.same, GV.setT, cond_true, cond_false, Nat.reduceEqDiff, Nat.reduceAdd, Nat.reduceBEq, ↓reduceIte, reduceCtorEq, Nat.zero_add, Nat.add_zero, Bool.and_true, Bool.true_and, BEq.rfl, true_and, and_true, List.map_cons, List.map_nil, Option.map_some, szAll, List.length_cons, List.length_nil, Int.reduceAdd, kill, SV.mentions, ne_eq, not_false_eq_true, List.drop_zero, List.take_succ_cons, List.take_zero, br_t, GV.bldT, GV.bldC, List.length_map, List.length_map]
    have hdr : l.drop i = [] := List.drop_of_length_le (by omega)
    rw [hdr, setG] at hj
    refine ⟨fun k1 => ⟨⟨rfl, rfl⟩, by omega, gh_pub 57 7 (os.length + 1) rfl rfl (by simp) fun v u hv hs hd => ?_⟩, fun k1 => gh_pub 57 7 os.length rfl rfl (by simp) fun v u hv hs hd => ?_⟩
    · simp (maxSteps := 2000000) only [vc_ret, thenQ_n, kKeep_eq, finQ_r, segs_nil, ops_nil, ops_cons, vcOp, ev, look, put_mk, keep_mk, keepL, cond_true, ↓reduceIte, BEq.rfl, kill, SV.mentions]
      rw [uni_no_r]
      refine fin_m (rs := [.s v]) _ rfl (fun _ _ h => h) ⟨v, rfl, ?_⟩
      rw [hj, if_neg (by simpa using k1), List.map_append]
      exact hs
    · simp (maxSteps := 2000000) only [vc_ret, thenQ_n, kKeep_eq, finQ_r, segs_nil, ops_nil, ops_cons, vcOp, ev, look, put_mk, keep_mk, keepL, cond_true, cond_false, ↓reduceIte, BEq.rfl, kill, SV.mentions]
      rw [uni_no_r]
      refine fin_m (rs := [.s v]) _ rfl (fun _ _ h => h) ⟨v, rfl, ?_⟩
      rw [hj, if_pos (by simpa using k1), List.append_nil]
      exact hs
end Go.Proofs.YtnoeabmpdjpfaaaGreatDoor.Vc

/- The document's lists of nodes: what is seen of them: plain. -/
set_option linter.unusedVariables false
set_option linter.unusedSimpArgs false
namespace Go.Proofs.YtnoeabmpdjpfaaaGreatDoor.Vc
open Go

/-! ### Attributes in order -/
theorem attrsA_sorted : ∀ {l : List Attr} {k : ByteArray}, attrsA k l = true → l.Pairwise (fun a b => a.key.data.toList < b.key.data.toList)
  | [], _, _ => List.Pairwise.nil
  | a :: l, k, h => by
    obtain ⟨_, _, _, h4⟩ := attrsA_cons h
    exact List.pairwise_cons.2 ⟨attrsA_above h4, attrsA_sorted h4⟩
theorem mem_lookA : ∀ {l : List Attr} {k : ByteArray}, attrsA k l = true → ∀ a, a ∈ l ↔ lookA l a.key = some a.value
  | [], _, _, a => by simp [lookA]
  | b :: l, k, h, a => by
    obtain ⟨_, _, _, h4⟩ := attrsA_cons h
    have ih := mem_lookA h4 a
    rw [lookA, List.mem_cons]
    by_cases e : b.key = a.key
    · rw [if_pos e]
      constructor
      · rintro (rfl | hm)
        · rfl
        · have := attrsA_above h4 a hm
          rw [e] at this
          exact absurd this (List.lt_irrefl _)
      · intro he
        obtain ⟨ak, av⟩ := a
        obtain ⟨bk, bv⟩ := b
        simp only at e
        simp only [Option.some.injEq] at he
        subst e; subst he
        exact .inl rfl
    · rw [if_neg e, ← ih]
      constructor
      · rintro (rfl | hm)
        · exact absurd rfl e
        · exact hm
      · exact .inr
theorem attrs_uniq {la lb : List Attr} (ha : attrsA ⟨#[]⟩ la = true) (hb : attrsA ⟨#[]⟩ lb = true) (h : lookA la = lookA lb) : la = lb := by
  have sa := attrsA_sorted ha
  have sb := attrsA_sorted hb
  have nd : ∀ {l : List Attr}, l.Pairwise (fun a b => a.key.data.toList < b.key.data.toList) → l.Nodup := fun hs => hs.imp fun {a b} hab e => by
    rw [e] at hab; exact List.lt_irrefl _ hab
  have hp : la.Perm lb := (List.perm_ext_iff_of_nodup (nd sa) (nd sb)).2 fun a => by rw [mem_lookA ha, mem_lookA hb, h]
  refine List.Perm.eq_of_pairwise (le := fun a b : Attr => a.key.data.toList < b.key.data.toList) (fun a b _ _ h1 h2 => ?_) sa sb hp
  exact absurd (List.lt_trans h1 h2) (List.lt_irrefl _)

/-! ### set -/
theorem attrsA_weak {l : List Attr} {k k' : ByteArray} (h : attrsA k l = true) (hk : ∀ a ∈ l, k'.data.toList < a.key.data.toList) : attrsA k' l = true := by
  cases l with
  | nil => rfl
  | cons a l =>
    obtain ⟨_, h2, h3, h4⟩ := attrsA_cons h
    have := hk a (by simp)
    have h1 : leB a.key k' = false := by
      rw [leB, bytesLess_lt, decide_eq_false (List.lt_asymm this), decide_eq_false]
      · rfl
      · intro e; rw [e] at this; exact List.lt_irrefl _ this
    rw [attrsA, h1, h3, h4, decide_eq_false h2]; rfl
theorem attrsA_mk {a : Attr} {l : List Attr} {k : ByteArray} (h1 : k.data.toList < a.key.data.toList) (h2 : a.value ≠ ⟨#[]⟩) (h3 : pairB a.key a.value = true) (h4 : attrsA a.key l = true) : attrsA k (a :: l) = true := by
  have h0 : leB a.key k = false := by
    rw [leB, bytesLess_lt, decide_eq_false (List.lt_asymm h1), decide_eq_false]
    · rfl
    · intro e; rw [e] at h1; exact List.lt_irrefl _ h1
  rw [attrsA, h0, h3, h4, decide_eq_false h2]; rfl
theorem setG_done (key value : ByteArray) : ∀ (l : List Attr), setG key value l true = l.filter fun a => !decide (a.key = key)
  | [] => rfl
  | a :: l => by
    rw [setG, Bool.true_or, setG_done key value l, List.filter_cons]
    by_cases e : a.key = key <;> simp [e]
theorem setL_ok {key value : ByteArray} (hp : pairB key value = true) : ∀ (l : List Attr) (k : ByteArray), attrsA k l = true → k.data.toList < key.data.toList → attrsA k (setG key value l (decide (value = ⟨#[]⟩))) = true := by
  by_cases hv : value = ⟨#[]⟩
  · intro l k h hk
    rw [decide_eq_true hv, setG_done]
    clear hk
    induction l generalizing k with
    | nil => rfl
    | cons a l ih =>
      obtain ⟨h1, h2, h3, h4⟩ := attrsA_cons h
      have hab := attrsA_above h a (by simp)
      rw [List.filter_cons]
      split
      · exact attrsA_mk hab h2 h3 (ih _ h4)
      · refine attrsA_weak (ih _ h4) fun b hb => ?_
        exact attrsA_above h b (List.mem_cons_of_mem _ (List.mem_filter.1 hb).1)
  · rw [decide_eq_false hv]
    intro l
    induction l with
    | nil => intro k _ hk; rw [setG, if_neg (by simp)]; exact attrsA_mk hk hv hp rfl
    | cons a l ih =>
      intro k h hk
      obtain ⟨h1, h2, h3, h4⟩ := attrsA_cons h
      have hab := attrsA_above h a (by simp)
      rw [setG, bytesLess_lt]
      by_cases hlt : a.key.data.toList < key.data.toList
      · have hne : a.key ≠ key := fun e => by rw [e] at hlt; exact List.lt_irrefl _ hlt
        rw [decide_eq_true hlt, if_neg (by simp), if_neg hne]
        exact attrsA_mk hab h2 h3 (ih _ h4 hlt)
      · rw [decide_eq_false hlt, if_pos (by simp)]
        simp only [Bool.not_false, Bool.false_or, Bool.true_and]
        rw [setG_done]
        refine attrsA_mk hk hv hp ?_
        have hall : ∀ b ∈ l.filter (fun a => !decide (a.key = key)), key.data.toList < b.key.data.toList := fun b hb => by
          have hb' := attrsA_above h4 b (List.mem_filter.1 hb).1
          have : key.data.toList ≤ a.key.data.toList := hlt
          exact List.lt_of_le_of_lt this hb'
        have hfil : ∀ (l : List Attr) (k : ByteArray), attrsA k l = true → attrsA k (l.filter fun a => !decide (a.key = key)) = true := by
          intro l
          induction l with
          | nil => intro k _; rfl
          | cons a l ih =>
            intro k h
            obtain ⟨h1, h2, h3, h4⟩ := attrsA_cons h
            have hab := attrsA_above h a (by simp)
            rw [List.filter_cons]
            split
            · exact attrsA_mk hab h2 h3 (ih _ h4)
            · exact attrsA_weak (ih _ h4) fun b hb => attrsA_above h b (List.mem_cons_of_mem _ (List.mem_filter.1 hb).1)
        by_cases he : a.key = key
        · rw [if_pos he]
          exact attrsA_weak (hfil _ _ h4) hall
        · rw [if_neg he]
          refine attrsA_mk (lt_of_le_ne hlt fun e => he (ByteArray.ext (Array.toList_inj.1 e.symm))) h2 h3 (hfil _ _ h4)
theorem lookA_filter (key : ByteArray) : ∀ (l : List Attr) (j : ByteArray), lookA (l.filter fun a => !decide (a.key = key)) j = if j = key then none else lookA l j
  | [], j => by simp [lookA]
  | a :: l, j => by
    have ih := lookA_filter key l j
    rw [List.filter_cons]
    by_cases e : a.key = key
    · rw [if_neg (by simp [e]), ih, lookA]
      by_cases hj : j = key
      · rw [if_pos hj, if_pos hj]
      · rw [if_neg hj, if_neg hj, if_neg (fun q => hj (q.symm.trans e))]
    · rw [if_pos (by simp [e]), lookA, ih, lookA]
      by_cases hj : j = key
      · rw [if_pos hj, if_neg (fun q => e (q.trans hj)), if_pos hj]
      · rw [if_neg hj, if_neg hj]
theorem setL_look {key value : ByteArray} : ∀ (l : List Attr) (k : ByteArray), attrsA k l = true → ∀ j, lookA (setG key value l (decide (value = ⟨#[]⟩))) j = if j = key then (if value = empty then none else some value) else lookA l j := by
  by_cases hv : value = ⟨#[]⟩
  · intro l k h j
    rw [decide_eq_true hv, setG_done, lookA_filter, if_pos (show value = empty from hv)]
  · rw [decide_eq_false hv]
    intro l
    induction l with
    | nil =>
      intro k _ j
      rw [setG, if_neg (by simp)]
      show (if key = j then some value else none) = if j = key then (if value = empty then none else some value) else none
      rw [if_neg (show ¬ value = empty from hv)]
      by_cases hj : key = j
      · rw [if_pos hj, if_pos hj.symm]
      · rw [if_neg hj, if_neg (fun e => hj e.symm)]
    | cons a l ih =>
      intro k h j
      obtain ⟨h1, h2, h3, h4⟩ := attrsA_cons h
      rw [if_neg (show ¬ value = empty from hv)]
      have ih := ih _ h4 j
      rw [if_neg (show ¬ value = empty from hv)] at ih
      rw [setG, bytesLess_lt]
      by_cases hlt : a.key.data.toList < key.data.toList
      · have hne : a.key ≠ key := fun e => by rw [e] at hlt; exact List.lt_irrefl _ hlt
        rw [decide_eq_true hlt, if_neg (by simp), if_neg hne]
        simp only [Bool.not_true, Bool.or_false, List.nil_append, List.cons_append]
        rw [lookA, ih, lookA]
        by_cases hj : a.key = j
        · rw [if_pos hj, if_pos hj, if_neg (fun e => hne (hj.trans e))]
        · rw [if_neg hj, if_neg hj]
      · rw [decide_eq_false hlt, if_pos (by simp)]
        simp only [Bool.not_false, Bool.false_or, Bool.true_and]
        rw [setG_done]
        show (if key = j then some value else lookA ((if a.key = key then [] else [a]) ++ l.filter fun a => !decide (a.key = key)) j) = if j = key then some value else (if a.key = j then some a.value else lookA l j)
        by_cases hj : key = j
        · rw [if_pos hj, if_pos hj.symm]
        · have hj' : ¬ j = key := fun e => hj e.symm
          rw [if_neg hj, if_neg hj']
          by_cases he : a.key = key
          · rw [if_pos he, List.nil_append, lookA_filter, if_neg hj', if_neg (fun e => hj (he.symm.trans e))]
          · rw [if_neg he]
            show (if a.key = j then some a.value else lookA (l.filter fun a => !decide (a.key = key)) j) = _
            rw [lookA_filter, if_neg hj']

/-! ### Lists in order -/
structure LOk (l : List TN) : Prop where
  sorted : l.Pairwise (fun a b => a.node < b.node)
  attrs : ∀ t ∈ l, attrsA ⟨#[]⟩ t.attrs = true
def getL (l : List TN) (n : Int) : Option TN := if isL l n = true then l[findL l n]? else none
def viewL (l : List TN) (n : Int) : Option AN := (getL l n).map fun t => ⟨t.parent, t.name, lookA t.attrs⟩
theorem getL_cons {t : TN} {l : List TN} (n : Int) : getL (t :: l) n = if t.node < n then getL l n else if t.node = n then some t else none := by
  unfold getL isL
  rw [findL]
  by_cases h1 : t.node < n
  · rw [if_pos h1, if_pos h1, List.getElem?_cons_succ]
  · rw [if_neg h1, if_neg h1, List.getElem?_cons_zero]
    by_cases h2 : t.node = n
    · simp [h2]
    · simp [h2]
theorem getL_mem : ∀ {l : List TN}, l.Pairwise (fun a b => a.node < b.node) → ∀ {n : Int} {t : TN}, getL l n = some t ↔ t ∈ l ∧ t.node = n
  | [], _, n, t => by simp [getL, isL]
  | a :: l, h, n, t => by
    rw [List.pairwise_cons] at h
    rw [getL_cons]
    by_cases h1 : a.node < n
    · rw [if_pos h1, getL_mem h.2]
      constructor
      · rintro ⟨q1, q2⟩; exact ⟨List.mem_cons_of_mem _ q1, q2⟩
      · rintro ⟨q1, q2⟩
        rcases List.mem_cons.1 q1 with rfl | q1
        · omega
        · exact ⟨q1, q2⟩
    · rw [if_neg h1]
      by_cases h2 : a.node = n
      · rw [if_pos h2]
        constructor
        · intro e; cases e; exact ⟨by simp, h2⟩
        · rintro ⟨q1, q2⟩
          rcases List.mem_cons.1 q1 with rfl | q1
          · rfl
          · have := h.1 t q1; omega
      · rw [if_neg h2]
        constructor
        · intro e; cases e
        · rintro ⟨q1, q2⟩
          rcases List.mem_cons.1 q1 with rfl | q1
          · exact absurd q2 h2
          · have := h.1 t q1; omega
theorem isL_get {l : List TN} {n : Int} : isL l n = (getL l n).isSome := by
  unfold getL
  cases h : isL l n with
  | false => rfl
  | true =>
    rw [if_pos rfl]
    unfold isL at h
    cases hg : l[findL l n]? with
    | none => rw [hg] at h; cases h
    | some t => rfl
theorem isL_view {l : List TN} {n : Int} : isL l n = (viewL l n).isSome := by
  rw [isL_get, viewL]; cases getL l n <;> rfl
theorem getL_at {l : List TN} {n : Int} {t : TN} (h : getL l n = some t) : findL l n < l.length ∧ l.getD (findL l n) zTN = t := by
  unfold getL at h
  split at h
  · have hl := (List.getElem?_eq_some_iff.1 h).1
    exact ⟨hl, by rw [List.getD_eq_getElem?_getD, h]; rfl⟩
  · cases h
theorem putL_cons {t a : TN} {l : List TN} : putL (t :: l) a = if t.node < a.node then t :: putL l a else if t.node = a.node then a :: l else a :: t :: l := by
  unfold putL isL
  rw [findL]
  by_cases h1 : t.node < a.node
  · rw [if_pos h1, if_pos h1, List.getElem?_cons_succ]
    cases l[findL l a.node]? with
    | none => simp
    | some x =>
      simp only [List.set_cons_succ, List.take_succ_cons, List.drop_succ_cons, List.cons_append]
      split <;> rfl
  · rw [if_neg h1, if_neg h1, List.getElem?_cons_zero]
    by_cases h2 : t.node = a.node
    · simp [h2]
    · simp [h2]
theorem putL_mem : ∀ {l : List TN} {a : TN}, l.Pairwise (fun a b => a.node < b.node) → ∀ t, t ∈ putL l a ↔ t = a ∨ (t ∈ l ∧ t.node ≠ a.node)
  | [], a, _, t => by simp [putL, isL, findL]
  | b :: l, a, h, t => by
    rw [List.pairwise_cons] at h
    rw [putL_cons]
    by_cases h1 : b.node < a.node
    · rw [if_pos h1, List.mem_cons, putL_mem h.2, List.mem_cons]
      constructor
      · rintro (rfl | q | q)
        · exact .inr ⟨.inl rfl, by omega⟩
        · exact .inl q
        · exact .inr ⟨.inr q.1, q.2⟩
      · rintro (q | ⟨rfl | q, r⟩)
        · exact .inr (.inl q)
        · exact .inl rfl
        · exact .inr (.inr ⟨q, r⟩)
    · rw [if_neg h1]
      by_cases h2 : b.node = a.node
      · rw [if_pos h2, List.mem_cons, List.mem_cons]
        constructor
        · rintro (q | q)
          · exact .inl q
          · exact .inr ⟨.inr q, by have := h.1 t q; omega⟩
        · rintro (q | ⟨rfl | q, r⟩)
          · exact .inl q
          · exact absurd h2 r
          · exact .inr q
      · rw [if_neg h2, List.mem_cons, List.mem_cons]
        constructor
        · rintro (q | rfl | q)
          · exact .inl q
          · exact .inr ⟨.inl rfl, h2⟩
          · exact .inr ⟨.inr q, by have := h.1 t q; omega⟩
        · rintro (q | ⟨q, r⟩)
          · exact .inl q
          · exact .inr q
theorem putL_sorted : ∀ {l : List TN} {a : TN}, l.Pairwise (fun a b => a.node < b.node) → (putL l a).Pairwise (fun a b => a.node < b.node)
  | [], a, _ => by simp [putL, isL, findL]
  | b :: l, a, h => by
    have h' := h
    rw [List.pairwise_cons] at h
    rw [putL_cons]
    by_cases h1 : b.node < a.node
    · rw [if_pos h1, List.pairwise_cons]
      refine ⟨fun t ht => ?_, putL_sorted h.2⟩
      rcases (putL_mem h.2 t).1 ht with rfl | q
      · exact h1
      · exact h.1 t q.1
    · rw [if_neg h1]
      by_cases h2 : b.node = a.node
      · rw [if_pos h2, List.pairwise_cons]
        exact ⟨fun t ht => by have := h.1 t ht; omega, h.2⟩
      · rw [if_neg h2, List.pairwise_cons]
        refine ⟨fun t ht => ?_, h'⟩
        rcases List.mem_cons.1 ht with rfl | q
        · omega
        · have := h.1 t q; omega
theorem LOk.put {l : List TN} {a : TN} (h : LOk l) (ha : attrsA ⟨#[]⟩ a.attrs = true) : LOk (putL l a) ∧ viewL (putL l a) = updV (viewL l) a.node (some ⟨a.parent, a.name, lookA a.attrs⟩) := by
  have hs := putL_sorted (a := a) h.sorted
  refine ⟨⟨hs, fun t ht => ?_⟩, ?_⟩
  · rcases (putL_mem h.sorted t).1 ht with rfl | q
    · exact ha
    · exact h.attrs t q.1
  · funext n
    have hg : getL (putL l a) n = if n = a.node then some a else getL l n := by
      by_cases e : n = a.node
      · rw [if_pos e]
        exact (getL_mem hs).2 ⟨(putL_mem h.sorted a).2 (.inl rfl), e.symm⟩
      · rw [if_neg e]
        cases hg : getL l n with
        | some t =>
          obtain ⟨q1, q2⟩ := (getL_mem h.sorted).1 hg
          exact (getL_mem hs).2 ⟨(putL_mem h.sorted t).2 (.inr ⟨q1, by omega⟩), q2⟩
        | none =>
          cases hg' : getL (putL l a) n with
          | none => rfl
          | some t =>
            obtain ⟨q1, q2⟩ := (getL_mem hs).1 hg'
            rcases (putL_mem h.sorted t).1 q1 with rfl | q
            · exact absurd q2.symm e
            · rw [(getL_mem h.sorted).2 ⟨q.1, q2⟩] at hg; cases hg
    unfold viewL updV
    rw [hg]
    by_cases e : n = a.node
    · rw [if_pos e, if_pos e]; rfl
    · rw [if_neg e, if_neg e]
theorem plain_told {l : List TN} {T : PT} {k : Nat} (h : LOk l) (hv : viewL l = T.view) (hok : T.ok k) (hg : VGood T.view) : plainL l = nodesTold T := by
  have hs2 := toldL_sorted (T := T) (nodesK_sorted hok.nod)
  have hs1 : (plainL l).Pairwise (fun a b => a.node < b.node) := h.sorted.sublist List.filter_sublist
  have nd : ∀ {l : List TN}, l.Pairwise (fun a b => a.node < b.node) → l.Nodup := fun hs => hs.imp fun {a b} hab e => by rw [e] at hab; omega
  have hat : ∀ n x, T.get n = some x → attrsA ⟨#[]⟩ (attrsOf x) = true := fun n x hx => attrsOf_ok (hok.attrs n x hx).1 fun k w h => hg.pairs n _ k w (PT.view_get hx) h
  have key : ∀ n t x, getL l n = some t → T.get n = some x → t = toldOf n x := fun n t x h1 h2 => by
    have hvn : viewL l n = T.view n := congrFun hv n
    rw [viewL, h1, PT.view_get h2] at hvn
    simp only [Option.map_some, Option.some.injEq, PN.view, AN.mk.injEq] at hvn
    obtain ⟨q1, q2, q3⟩ := hvn
    obtain ⟨m1, m2⟩ := (getL_mem h.sorted).1 h1
    obtain ⟨tn, tp, tm, ta⟩ := t
    simp only at q1 q2 q3 m2
    have : ta = attrsOf x := attrs_uniq (h.attrs _ m1) (hat n x h2) (by rw [q3]; funext j; exact (attrsOf_look x j).symm)
    rw [toldOf, ← q1, ← q2, ← m2, this]
  have hp : (plainL l).Perm (nodesTold T) := (List.perm_ext_iff_of_nodup (nd hs1) (nd hs2)).2 fun t => by
    have hsh : ∀ t : TN, 0 < t.node → (decide (t.node > 2) || decide (0 < t.attrs.length)) = t.shown := fun t ht => by
      rw [TN.shown]
      congr 1
      simp only [topB]
      by_cases h1 : t.node = 1
      · simp [h1]
      · by_cases h2 : t.node = 2
        · simp [h2]
        · rw [decide_eq_true (by omega)]; simp [h1, h2]
    constructor
    · intro ht
      obtain ⟨m1, m2⟩ := List.mem_filter.1 ht
      have hg1 := (getL_mem h.sorted).2 ⟨m1, rfl⟩
      have hvn : viewL l t.node = T.view t.node := congrFun hv _
      rw [viewL, hg1] at hvn
      obtain ⟨x, hx, _⟩ := get_of_view hvn.symm
      have e := key _ _ _ hg1 hx
      rw [e]
      refine (mem_told hx).2 ?_
      rw [← e, ← hsh t (hg.pos _ _ (PT.view_get hx))]
      exact m2
    · intro ht
      obtain ⟨n, _, x, hx, rfl⟩ := toldL_node ht
      have hvn : viewL l n = T.view n := congrFun hv n
      rw [PT.view_get hx] at hvn
      cases hg1 : getL l n with
      | none => rw [viewL, hg1] at hvn; cases hvn
      | some t =>
        have e := key _ _ _ hg1 hx
        obtain ⟨m1, _⟩ := (getL_mem h.sorted).1 hg1
        rw [e] at m1
        refine List.mem_filter.2 ⟨m1, ?_⟩
        rw [hsh _ (hg.pos _ _ (PT.view_get hx))]
        exact (mem_told hx).1 ht
  refine List.Perm.eq_of_pairwise (le := fun a b : TN => a.node < b.node) (fun a b _ _ h1 h2 => ?_) hs1 hs2 hp
  omega
end Go.Proofs.YtnoeabmpdjpfaaaGreatDoor.Vc

/- The code of some functions of the program, its types resolved: printed by a program of this claim. -/
set_option linter.unusedVariables false
set_option maxRecDepth 100000
namespace Go.Proofs.YtnoeabmpdjpfaaaGreatDoor.Vc
open Go Go.Proofs

abbrev f_ref12_Tree_Below : Nat := 48
def c_ref12_Tree_Below_L0 : Cd :=
 (.seq (.seq (.rg [⟨none, [(some 17, .mv (.t 8))]⟩] [0, 1, 2, 8, 17])
 (.ite (.t 17)
 .skip
 (.exit 0)))
 (.block 1 (.seq (.rg [⟨none, [(some 19, .mv (.t 0)), (some 20, .mv (.t 1)), (some 21, .call 56 [(.t 19), (.t 20)]), (some 18, .mv (.t 21)), (some 22, .ext (.t 18) 0), (some 23, .ext (.t 18) 1), (some 9, .mv (.t 22)), (some 10, .mv (.t 23))]⟩] [0, 1, 2, 8, 9, 10])
 (.seq (.seq (.rg [⟨none, [(some 24, .mv (.t 10)), (some 25, .un .not (.t 24))]⟩] [0, 1, 2, 8, 9, 25])
 (.ite (.t 25)
 (.seq (.rg [⟨none, [(some 6, .mv (.c (.bool false)))]⟩] [6])
 .ret)
 .skip))
 (.seq (.seq (.rg [⟨none, [(some 26, .mv (.t 1)), (some 27, .mv (.t 2)), (some 28, .bin .eql (.t 26) (.t 27))]⟩] [0, 2, 8, 9, 28])
 (.ite (.t 28)
 (.seq (.rg [⟨none, [(some 6, .mv (.c (.bool true)))]⟩] [6])
 .ret)
 .skip))
 (.rg [⟨none, [(some 29, .mv (.t 0)), (some 30, .nilc (.t 29)), (some 31, .fldA (.t 30) 0 0), (some 32, .ld (.t 31) 1 false), (some 33, .mv (.t 9)), (some 34, .idxS (.t 32) (.t 33) 4), (some 35, .fldA (.t 34) 1 1), (some 36, .ld (.t 35) 1 false), (some 1, .mv (.t 36))]⟩] [0, 1, 2, 8]))))))
def c_ref12_Tree_Below : Cd :=
 (.seq (.rg [⟨none, [(some 6, .mv (.c (.bool false)))]⟩] [0, 1, 2])
 (.seq (.rg [⟨none, [(some 12, .mv (.t 0)), (some 13, .mv (.t 2)), (some 14, .call 56 [(.t 12), (.t 13)]), (some 11, .mv (.t 14)), (some 15, .ext (.t 11) 0), (some 16, .ext (.t 11) 1), (some 7, .mv (.t 15)), (some 8, .mv (.t 16))]⟩] [0, 1, 2, 8])
 (.seq (.block 0 (.loop c_ref12_Tree_Below_L0))
 (.seq (.rg [⟨none, [(some 6, .mv (.c (.bool false)))]⟩] [6])
 .ret))))
theorem k_ref12_Tree_Below : Ok Tryz.prog 48 c_ref12_Tree_Below 37 [] [.tmp 6] := Ok.mk' Tryz.func48 (by kernel_rfl) (by kernel_rfl) (by kernel_rfl)

abbrev f_ref12_Tree_May : Nat := 54
def c_ref12_Tree_May : Cd :=
 (.seq (.rg [⟨none, [(some 3, .box 70 (.t 1)), (some 4, .mv (.c (.bool false)))]⟩] [0, 3])
 (.seq (.rg [⟨none, [(some 10, .mv (.t 0)), (some 11, .fldA (.t 3) 2 3), (some 12, .ld (.t 11) 1 false), (some 13, .call 56 [(.t 10), (.t 12)]), (some 9, .mv (.t 13)), (some 14, .ext (.t 9) 0), (some 15, .ext (.t 9) 1), (some 5, .mv (.t 14)), (some 6, .mv (.t 15))]⟩] [0, 3, 6])
 (.seq (.rg [⟨none, [(some 17, .mv (.t 0)), (some 18, .fldA (.t 3) 3 4), (some 19, .ld (.t 18) 1 false), (some 20, .call 56 [(.t 17), (.t 19)]), (some 16, .mv (.t 20)), (some 21, .ext (.t 16) 0), (some 22, .ext (.t 16) 1), (some 7, .mv (.t 21)), (some 8, .mv (.t 22))]⟩] [0, 3, 6, 8])
 (.seq (.seq (.rg [⟨none, [(some 23, .fldA (.t 3) 1 2), (some 24, .ld (.t 23) 1 false)]⟩] [0, 3, 6, 8, 24])
 (.block 0 (.seq (.rg [⟨none, [(some 26, .bin .eql (.t 24) (.c (.int .i64 1))), (some 25, .mv (.t 26))]⟩] [0, 3, 6, 8, 24, 25])
 (.ite (.t 25)
 (.seq (.rg [⟨none, [(some 27, .fldA (.t 3) 2 3), (some 28, .ld (.t 27) 1 false), (some 29, .bin .gtr (.t 28) (.c (.int .i64 2))), (some 30, .mv (.t 29))]⟩, ⟨some (30, true), [(some 31, .mv (.t 6)), (some 32, .un .not (.t 31))]⟩, ⟨none, [(some 33, .pick (.t 30) (.t 32) (.c (.bool false))), (some 34, .mv (.t 33))]⟩, ⟨some (34, true), [(some 35, .mv (.t 8))]⟩, ⟨none, [(some 36, .pick (.t 34) (.t 35) (.c (.bool false))), (some 37, .mv (.t 36))]⟩, ⟨some (37, true), [(some 38, .fldA (.t 3) 4 5), (some 39, .ld (.t 38) 1 false), (some 40, .call 75 [(.t 39)])]⟩, ⟨none, [(some 41, .pick (.t 37) (.t 40) (.c (.bool false))), (some 4, .mv (.t 41))]⟩] [4])
 .ret)
 (.seq (.rg [⟨none, [(some 43, .bin .eql (.t 24) (.c (.int .i64 2))), (some 42, .mv (.t 43))]⟩] [0, 3, 6, 8, 24, 42])
 (.ite (.t 42)
 (.seq (.rg [⟨none, [(some 44, .mv (.t 6)), (some 45, .mv (.t 44))]⟩, ⟨some (45, true), [(some 46, .fldA (.t 3) 2 3), (some 47, .ld (.t 46) 1 false), (some 48, .bin .gtr (.t 47) (.c (.int .i64 2)))]⟩, ⟨none, [(some 49, .pick (.t 45) (.t 48) (.c (.bool false))), (some 50, .mv (.t 49))]⟩, ⟨some (50, true), [(some 51, .mv (.t 8))]⟩, ⟨none, [(some 52, .pick (.t 50) (.t 51) (.c (.bool false))), (some 53, .mv (.t 52))]⟩, ⟨some (53, true), [(some 54, .mv (.t 0)), (some 55, .fldA (.t 3) 3 4), (some 56, .ld (.t 55) 1 false), (some 57, .fldA (.t 3) 2 3), (some 58, .ld (.t 57) 1 false), (some 59, .call 48 [(.t 54), (.t 56), (.t 58)]), (some 60, .un .not (.t 59))]⟩, ⟨none, [(some 61, .pick (.t 53) (.t 60) (.c (.bool false))), (some 62, .mv (.t 61))]⟩, ⟨some (62, true), [(some 63, .fldA (.t 3) 4 5), (some 64, .ld (.t 63) 1 false), (some 65, .call 75 [(.t 64)])]⟩, ⟨none, [(some 66, .pick (.t 62) (.t 65) (.c (.bool false))), (some 4, .mv (.t 66))]⟩] [4])
 .ret)
 (.seq (.rg [⟨none, [(some 68, .bin .eql (.t 24) (.c (.int .i64 3))), (some 67, .mv (.t 68))]⟩] [3, 6, 67])
 (.ite (.t 67)
 (.seq (.rg [⟨none, [(some 69, .mv (.t 6)), (some 70, .mv (.t 69))]⟩, ⟨some (70, true), [(some 71, .fldA (.t 3) 5 6), (some 72, .ld (.t 71) 1 false), (some 73, .bin .neq (.t 72) (.c (.string ⟨#[]⟩)))]⟩, ⟨none, [(some 74, .pick (.t 70) (.t 73) (.c (.bool false))), (some 75, .mv (.t 74))]⟩, ⟨some (75, true), [(some 76, .fldA (.t 3) 5 6), (some 77, .ld (.t 76) 1 false), (some 78, .lenS (.t 77)), (some 79, .bin .leq (.t 78) (.c (.int .i64 255)))]⟩, ⟨none, [(some 80, .pick (.t 75) (.t 79) (.c (.bool false))), (some 81, .mv (.t 80))]⟩, ⟨some (81, true), [(some 82, .fldA (.t 3) 6 7), (some 83, .ld (.t 82) 1 false), (some 84, .lenS (.t 83)), (some 85, .bin .leq (.t 84) (.c (.int .i64 255)))]⟩, ⟨none, [(some 86, .pick (.t 81) (.t 85) (.c (.bool false))), (some 4, .mv (.t 86))]⟩] [4])
 .ret)
 .skip))))))))
 (.seq (.rg [⟨none, [(some 4, .mv (.c (.bool false)))]⟩] [4])
 .ret)))))
theorem k_ref12_Tree_May : Ok Tryz.prog 54 c_ref12_Tree_May 87 [] [.tmp 4] := Ok.mk' Tryz.func54 (by kernel_rfl) (by kernel_rfl) (by kernel_rfl)

abbrev f_ref12_Tree_Do : Nat := 28
def c_ref12_Tree_Do_R12 : Cd :=
 (.seq (.gh (.rg [⟨none, [(some 61, .mv (.t 0)), (some 62, .ld (.t 5) 4 true), (some 63, .call 58 [(.t 61), (.t 62)])]⟩] []))
 (.seq (.rg [⟨none, [(some 4, .mv (.c (.bool true)))]⟩] [4])
 .ret))
def c_ref12_Tree_Do_R8 : Cd :=
 (.seq (.seq (.gh (.rg [⟨none, [(some 44, .fldA (.t 3) 1 2), (some 45, .ld (.t 44) 1 false), (some 46, .bin .eql (.t 45) (.c (.int .i64 3)))]⟩] [0, 3, 5, 46]))
 (.ite (.t 46)
 (.rg [⟨none, [(some 47, .fldA (.t 5) 3 3), (some 48, .ld (.t 47) 1 false), (some 49, .fldA (.t 3) 5 6), (some 50, .ld (.t 49) 1 false), (some 51, .fldA (.t 3) 6 7), (some 52, .ld (.t 51) 1 false), (some 53, .call 57 [(.t 48), (.t 50), (.t 52)]), (some 54, .fldA (.t 5) 3 3), (none, .st (.t 54) (.t 53) 1)]⟩] [0, 5])
 (.seq (.rg [⟨none, [(some 55, .fldA (.t 3) 3 4), (some 56, .ld (.t 55) 1 false), (some 57, .fldA (.t 5) 1 1), (none, .st (.t 57) (.t 56) 1)]⟩] [0, 3, 5])
 (.rg [⟨none, [(some 58, .fldA (.t 3) 4 5), (some 59, .ld (.t 58) 1 false), (some 60, .fldA (.t 5) 2 2), (none, .st (.t 60) (.t 59) 1)]⟩] [0, 5]))))
 c_ref12_Tree_Do_R12)
def c_ref12_Tree_Do_R4 : Cd :=
 (.seq (.gh (.rg [⟨none, [(some 26, .fldA (.t 3) 2 3), (some 27, .ld (.t 26) 1 false), (some 28, .bld (.c (.s (.int .i64 0)) (.c (.s (.int .i64 0)) (.c (.s (.string ⟨#[]⟩)) (.c (.s (.slice none 0 0)) .u)))) [(0, (.t 27))]), (some 5, .new 32 (.c (.s (.int .i64 0)) (.c (.s (.int .i64 0)) (.c (.s (.string ⟨#[]⟩)) (.c (.s (.slice none 0 0)) .u))))), (none, .st (.t 5) (.t 28) 4)]⟩] [0, 3, 5]))
 (.seq (.seq (.rg [⟨none, [(some 30, .mv (.t 0)), (some 31, .fldA (.t 3) 2 3), (some 32, .ld (.t 31) 1 false), (some 33, .call 56 [(.t 30), (.t 32)]), (some 29, .mv (.t 33)), (some 34, .ext (.t 29) 0), (some 35, .ext (.t 29) 1), (some 6, .mv (.t 34)), (some 7, .mv (.t 35))]⟩] [0, 3, 5, 6, 7])
 (.seq (.rg [⟨none, [(some 36, .mv (.t 7))]⟩] [0, 3, 5, 6, 36])
 (.ite (.t 36)
 (.rg [⟨none, [(some 37, .mv (.t 0)), (some 38, .nilc (.t 37)), (some 39, .fldA (.t 38) 0 0), (some 40, .ld (.t 39) 1 false), (some 41, .mv (.t 6)), (some 42, .idxS (.t 40) (.t 41) 4), (some 43, .ld (.t 42) 4 true), (none, .st (.t 5) (.t 43) 4)]⟩] [0, 3, 5])
 .skip)))
 c_ref12_Tree_Do_R8))
def c_ref12_Tree_Do : Cd :=
 (.seq (.rg [⟨none, [(some 3, .box 70 (.t 1)), (some 4, .mv (.c (.bool false)))]⟩] [0, 3])
 (.seq (.seq (.rg [⟨none, [(some 8, .mv (.t 0)), (some 9, .ld (.t 3) 8 true), (some 10, .call 54 [(.t 8), (.t 9)]), (some 11, .un .not (.t 10))]⟩] [0, 3, 11])
 (.ite (.t 11)
 (.seq (.rg [⟨none, [(some 4, .mv (.c (.bool false)))]⟩] [4])
 .ret)
 .skip))
 (.seq (.rga (.op ⟨none, [(some 12, .mv (.t 0))]⟩ (.op ⟨none, [(some 13, .mv (.t 0))]⟩ (.op ⟨none, [(some 14, .nilc (.t 13))]⟩ (.op ⟨none, [(some 15, .fldA (.t 14) 1 1)]⟩ (.op ⟨none, [(some 17, .mv (.t 0))]⟩ (.op ⟨none, [(some 18, .nilc (.t 17))]⟩ (.op ⟨none, [(some 19, .fldA (.t 18) 0 0)]⟩ (.or (.op ⟨none, [(some 16, .ld (.t 15) 1 false)]⟩ (.op ⟨none, [(some 20, .ld (.t 19) 1 false)]⟩ (.op ⟨none, [(some 21, .call 55 [(.t 20)])]⟩ (.op ⟨none, [(some 22, .bldS 28 1 (.s (.slice none 0 0)) [(.t 21)])]⟩ (.op ⟨none, [(some 23, .app 28 1 24 (.s (.slice none 0 0)) (.t 16) (.t 22))]⟩ (.op ⟨none, [(some 24, .nilc (.t 12))]⟩ (.op ⟨none, [(some 25, .fldA (.t 24) 1 1)]⟩ (.op ⟨none, [(none, .st (.t 25) (.t 23) 1)]⟩ .done)))))))) (.op ⟨none, [(some 20, .ld (.t 19) 1 false)]⟩ (.or (.op ⟨none, [(some 16, .ld (.t 15) 1 false)]⟩ (.op ⟨none, [(some 21, .call 55 [(.t 20)])]⟩ (.op ⟨none, [(some 22, .bldS 28 1 (.s (.slice none 0 0)) [(.t 21)])]⟩ (.op ⟨none, [(some 23, .app 28 1 24 (.s (.slice none 0 0)) (.t 16) (.t 22))]⟩ (.op ⟨none, [(some 24, .nilc (.t 12))]⟩ (.op ⟨none, [(some 25, .fldA (.t 24) 1 1)]⟩ (.op ⟨none, [(none, .st (.t 25) (.t 23) 1)]⟩ .done))))))) (.op ⟨none, [(some 21, .call 55 [(.t 20)])]⟩ (.or (.op ⟨none, [(some 16, .ld (.t 15) 1 false)]⟩ (.op ⟨none, [(some 22, .bldS 28 1 (.s (.slice none 0 0)) [(.t 21)])]⟩ (.op ⟨none, [(some 23, .app 28 1 24 (.s (.slice none 0 0)) (.t 16) (.t 22))]⟩ (.op ⟨none, [(some 24, .nilc (.t 12))]⟩ (.op ⟨none, [(some 25, .fldA (.t 24) 1 1)]⟩ (.op ⟨none, [(none, .st (.t 25) (.t 23) 1)]⟩ .done)))))) (.op ⟨none, [(some 22, .bldS 28 1 (.s (.slice none 0 0)) [(.t 21)])]⟩ (.op ⟨none, [(some 16, .ld (.t 15) 1 false)]⟩ (.op ⟨none, [(some 23, .app 28 1 24 (.s (.slice none 0 0)) (.t 16) (.t 22))]⟩ (.op ⟨none, [(some 24, .nilc (.t 12))]⟩ (.op ⟨none, [(some 25, .fldA (.t 24) 1 1)]⟩ (.op ⟨none, [(none, .st (.t 25) (.t 23) 1)]⟩ .done)))))))))))))))))) [0, 3])
 c_ref12_Tree_Do_R4)))
theorem k_ref12_Tree_Do : Ok Tryz.prog 28 c_ref12_Tree_Do 64 [(3, 999999)] [.tmp 4] := Ok.mk' Tryz.func28 (by kernel_rfl) (by kernel_rfl) (by kernel_rfl)

end Go.Proofs.YtnoeabmpdjpfaaaGreatDoor.Vc

