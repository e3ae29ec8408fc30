/- Part 5 of what a law of this seat rests on. -/
import Derived.Test.YtnoeabmpdjpfaaaGreatDoorProg
import Derived.Test.YtnoeabmpdjpfaaaGreatDoorZPathOwnU4
/- Join; two names' lists are the same; both packages do anything. -/
set_option linter.unusedVariables false
set_option linter.unusedSimpArgs false
set_option maxRecDepth 100000
namespace Go.Proofs.YtnoeabmpdjpfaaaGreatDoor.Vc.Pa
open Go Go.Proofs

def sumL (ns : List (List UInt8)) : Nat := (ns.map List.length).sum + ns.length
theorem sumL_mem {ns : List (List UInt8)} {n : List UInt8} (h : n ∈ ns) : n.length ≤ sumL ns := by
  have : n.length ≤ (ns.map List.length).sum := by
    induction ns with
    | nil => cases h
    | cons x r ih =>
      rcases List.mem_cons.1 h with rfl | h
      · simp
      · have := ih h; simp; omega
  unfold sumL; omega
theorem sumL_len (ns : List (List UInt8)) : ns.length ≤ sumL ns := by unfold sumL; omega

theorem mkS_app (a b : List UInt8) : mkS a ++ mkS b = mkS (a ++ b) := by
  apply congrArg (fun l : List UInt8 => (⟨l.toArray⟩ : ByteArray)) ; rfl

theorem pJoin_spec (w : World) (v : Value) (ns : List (List UInt8)) (hb : sumL ns ≤ 137438953472) (u : PH) (hu : u.le w) (h : SlR u v 1 (ns.map gN)) :
    Spec Tryz.prog f_path_Join [v] PH.no w fun rs _ => rs = [gN (joinA ns).1, .s (.int .i64 (joinA ns).2)] := by
  refine spec_val k_path_Join (Qf := fun rs => rs = [gN (joinA ns).1, .s (.int .i64 (joinA ns).2)]) [.ro v 1 (.s (.string ⟨#[]⟩)) (ns.map gN)] (by simp) (by simpa [AV.ok, u0_no] using h.up hu.sub) ?_
  simp (maxSteps := 2000000) only [c_path_Join, vc_skip, vc_ret, vc_exit, vc_seq, vc_block, vc_scope, scopeQ_n, scopeQ_r, scopeQ_e, vc_rg, vc_rgq, vc_rga, vc_ite, thenQ_n, thenQ_r, thenQ_e, blockQ_n, blockQ_r, blockQ_e, kKeep_eq, loopQ_r, loopQ_e, loopQ_n, finQ_r, finQ_n, segs_nil, segs_n, segs_g, ops_nil, ops_cons, qsegs_nil, qsegs_n, qsegs_g, qops_nil, qops_cons, ot_done, ot_op, ot_or, ot_held, oh_done, oh_op, oh_or, oh_first, oh_firstg, heldC_eq, heldF_eq, heldOk, heldK, ldH, heldM_self, heldM_one, heldM_two, heldM_three, List.contains_cons, List.contains_nil, Bool.or_false, Bool.or_true, Bool.true_or, Bool.false_or, vcqOp, vcOp, isRd, RO.isGh, skip_mk, skipL, ev, evL, gvL, scL, look, updL, put_mk, put_mk0, keep_mk, keepL, rowE, rowD, bndN, binV, binC, unV, GV.getT, GV.fld, GV.sz, GV.same, GV.setT, Value.oneCell', cond_true, cond_false, Nat.reduceEqDiff, Nat.reduceAdd, Nat.reduceMul, Nat.reduceSub, Nat.reduceBEq, Nat.reduceLeDiff, ↓reduceIte, reduceCtorEq, List.nil_append, List.cons_append, List.append_nil, Nat.zero_add, Nat.add_zero, Bool.and_true, Bool.true_and, Bool.not_true, Bool.not_false, BEq.rfl, decide_true, decide_false, true_and, and_true, initF, initP, List.map_cons, List.map_nil, Option.map_some, szAll, List.length_cons, List.length_nil, finW_r, finW_n, resL, resOne, Option.bind_some, true_imp_iff, false_imp_iff, Bool.true_eq_false, Bool.false_eq_true, Int.toNat_natCast, Int.reduceToNat, Int.reduceLE, Int.reduceLT, Int.reduceAdd, Int.reduceSub, Int.reduceEq, decide_eq_true_eq, decide_eq_false_iff_not, kill, SV.mentions, ne_eq, not_false_eq_true, not_true_eq_false, List.drop_zero, List.take_succ_cons, List.take_zero, dOk, ↓br_tt, ↓br_ff, ↓br_tf, ↓br_ft, br_t, br_f, Bool.bne_false, Bool.bne_true, GV.bldT, GV.bldC, gVec_get, gVec_set, gVec_arr, gVec_fits, gVec_sz, gVec_sameT, gVec_zero, gVec_isS, gVec2_get, gVec2_arr, gVec2_fits, gVec2_sz, gVec2_sameT, gVec2_zero, gVec2_set, same_int, getT_nil, setT_nil, getD_gi, List.length_map, fits_s, fits_c, fits_ar, arr_ar, get_nil, mkS_size, getD_gN, getD_gb, mkS_at, mkS_e0, mkS_e46, mkS_e4646, mkS_e47, mkS_ext, List.length_map]
  refine call_is _ [.s (.int .i64 (wrongA ns))] rfl rfl (fun w' vs hv' hw => ?_) ?_
  · obtain ⟨v', vs, rfl, g1, hv'⟩ := argsV_row (z := 1) (xs := ns.map gN) rfl (by simp) hv'
    obtain rfl := argsV_nil hv'
    intro _
    have := sumL_len ns
    exact wrong_spec w' v' ns (by omega) (fun n hn => by have := sumL_mem hn; omega) w'.ph (fun _ _ h => h) g1
  simp (maxSteps := 2000000) only [retS, beq_iff_eq, beq_eq_false_iff_ne, bne_iff_ne, bne_eq_false_iff_eq, vc_skip, vc_ret, vc_exit, vc_seq, vc_block, vc_scope, scopeQ_n, scopeQ_r, scopeQ_e, vc_rg, vc_rgq, vc_rga, vc_ite, thenQ_n, thenQ_r, thenQ_e, blockQ_n, blockQ_r, blockQ_e, kKeep_eq, loopQ_r, loopQ_e, loopQ_n, finQ_r, finQ_n, segs_nil, segs_n, segs_g, ops_nil, ops_cons, qsegs_nil, qsegs_n, qsegs_g, qops_nil, qops_cons, ot_done, ot_op, ot_or, ot_held, oh_done, oh_op, oh_or, oh_first, oh_firstg, heldC_eq, heldF_eq, heldOk, heldK, ldH, heldM_self, heldM_one, heldM_two, heldM_three, List.contains_cons, List.contains_nil, Bool.or_false, Bool.or_true, Bool.true_or, Bool.false_or, vcqOp, vcOp, isRd, RO.isGh, skip_mk, skipL, ev, evL, gvL, scL, look, updL, put_mk, put_mk0, keep_mk, keepL, rowE, rowD, bndN, binV, binC, unV, GV.getT, GV.fld, GV.sz, GV.same, GV.setT, Value.oneCell', cond_true, cond_false, Nat.reduceEqDiff, Nat.reduceAdd, Nat.reduceMul, Nat.reduceSub, Nat.reduceBEq, Nat.reduceLeDiff, ↓reduceIte, reduceCtorEq, List.nil_append, List.cons_append, List.append_nil, Nat.zero_add, Nat.add_zero, Bool.and_true, Bool.true_and, Bool.not_true, Bool.not_false, BEq.rfl, decide_true, decide_false, true_and, and_true, initF, initP, List.map_cons, List.map_nil, Option.map_some, szAll, List.length_cons, List.length_nil, finW_r, finW_n, resL, resOne, Option.bind_some, true_imp_iff, false_imp_iff, Bool.true_eq_false, Bool.false_eq_true, Int.toNat_natCast, Int.reduceToNat, Int.reduceLE, Int.reduceLT, Int.reduceAdd, Int.reduceSub, Int.reduceEq, decide_eq_true_eq, decide_eq_false_iff_not, kill, SV.mentions, ne_eq, not_false_eq_true, not_true_eq_false, List.drop_zero, List.take_succ_cons, List.take_zero, dOk, ↓br_tt, ↓br_ff, ↓br_tf, ↓br_ft, br_t, br_f, Bool.bne_false, Bool.bne_true, GV.bldT, GV.bldC, gVec_get, gVec_set, gVec_arr, gVec_fits, gVec_sz, gVec_sameT, gVec_zero, gVec_isS, gVec2_get, gVec2_arr, gVec2_fits, gVec2_sz, gVec2_sameT, gVec2_zero, gVec2_set, same_int, getT_nil, setT_nil, getD_gi, List.length_map, fits_s, fits_c, fits_ar, arr_ar, get_nil, mkS_size, getD_gN, getD_gb, mkS_at, mkS_e0, mkS_e46, mkS_e4646, mkS_e47, mkS_ext, List.length_map]
  refine ⟨fun h1 => ?_, fun h1 => ?_⟩
  · rw [joinA, if_neg h1]; rfl
  refine call_is _ [gN (Lib.join ns [47])] rfl rfl (fun w' vs hv' hw => ?_) ?_
  · obtain ⟨v', vs, rfl, g1, hv'⟩ := argsV_row (z := 1) (xs := ns.map gN) rfl (by simp) hv'
    obtain ⟨vs, rfl, _, hv'⟩ := argsV_g hv'
    obtain rfl := argsV_nil hv'
    intro _
    exact Join_spec w' v' ns (by unfold sumL at hb; omega) w'.ph (fun _ _ h => h) g1
  simp (maxSteps := 2000000) only [retS, gN, vc_skip, vc_ret, vc_exit, vc_seq, vc_block, vc_scope, scopeQ_n, scopeQ_r, scopeQ_e, vc_rg, vc_rgq, vc_rga, vc_ite, thenQ_n, thenQ_r, thenQ_e, blockQ_n, blockQ_r, blockQ_e, kKeep_eq, loopQ_r, loopQ_e, loopQ_n, finQ_r, finQ_n, segs_nil, segs_n, segs_g, ops_nil, ops_cons, qsegs_nil, qsegs_n, qsegs_g, qops_nil, qops_cons, ot_done, ot_op, ot_or, ot_held, oh_done, oh_op, oh_or, oh_first, oh_firstg, heldC_eq, heldF_eq, heldOk, heldK, ldH, heldM_self, heldM_one, heldM_two, heldM_three, List.contains_cons, List.contains_nil, Bool.or_false, Bool.or_true, Bool.true_or, Bool.false_or, vcqOp, vcOp, isRd, RO.isGh, skip_mk, skipL, ev, evL, gvL, scL, look, updL, put_mk, put_mk0, keep_mk, keepL, rowE, rowD, bndN, binV, binC, unV, GV.getT, GV.fld, GV.sz, GV.same, GV.setT, Value.oneCell', cond_true, cond_false, Nat.reduceEqDiff, Nat.reduceAdd, Nat.reduceMul, Nat.reduceSub, Nat.reduceBEq, Nat.reduceLeDiff, ↓reduceIte, reduceCtorEq, List.nil_append, List.cons_append, List.append_nil, Nat.zero_add, Nat.add_zero, Bool.and_true, Bool.true_and, Bool.not_true, Bool.not_false, BEq.rfl, decide_true, decide_false, true_and, and_true, initF, initP, List.map_cons, List.map_nil, Option.map_some, szAll, List.length_cons, List.length_nil, finW_r, finW_n, resL, resOne, Option.bind_some, true_imp_iff, false_imp_iff, Bool.true_eq_false, Bool.false_eq_true, Int.toNat_natCast, Int.reduceToNat, Int.reduceLE, Int.reduceLT, Int.reduceAdd, Int.reduceSub, Int.reduceEq, decide_eq_true_eq, decide_eq_false_iff_not, kill, SV.mentions, ne_eq, not_false_eq_true, not_true_eq_false, List.drop_zero, List.take_succ_cons, List.take_zero, dOk, ↓br_tt, ↓br_ff, ↓br_tf, ↓br_ft, br_t, br_f, Bool.bne_false, Bool.bne_true, GV.bldT, GV.bldC, gVec_get, gVec_set, gVec_arr, gVec_fits, gVec_sz, gVec_sameT, gVec_zero, gVec_isS, gVec2_get, gVec2_arr, gVec2_fits, gVec2_sz, gVec2_sameT, gVec2_zero, gVec2_set, same_int, getT_nil, setT_nil, getD_gi, List.length_map, fits_s, fits_c, fits_ar, arr_ar, get_nil, mkS_size, getD_gN, getD_gb, mkS_at, mkS_e0, mkS_e46, mkS_e4646, mkS_e47, mkS_ext, List.length_map]
  have hjl := join_len ns
  rw [joinA, if_pos h1]
  refine ⟨?_, ?_⟩
  · have : ({ data := #[47] } : ByteArray).size = 1 := rfl
    unfold sumL at hb
    omega
  · rw [show ({ data := #[47] } : ByteArray) = mkS [47] from rfl, mkS_app]; rfl

theorem join_step (ns : List (List UInt8)) (n : List UInt8) : ((ns ++ [n]).map (fun x => (47 : UInt8) :: x)).flatten = (ns.map (fun x => (47 : UInt8) :: x)).flatten ++ 47 :: n := by simp
theorem join_flat : ∀ ns : List (List UInt8), ns ≠ [] → (ns.map (fun x => (47 : UInt8) :: x)).flatten = joinS ns
  | [], h => absurd rfl h
  | x :: r, _ => by
    unfold joinS
    rw [Lib.join_cons]
    have : ∀ r : List (List UInt8), (r.map (fun x => (47 : UInt8) :: x)).flatten = Lib.joinTail [47] r := by
      intro r
      induction r with
      | nil => rfl
      | cons y r ih => rw [List.map_cons, List.flatten_cons, ih]; rfl
    rw [List.map_cons, List.flatten_cons, this]; rfl
theorem flat_len (ns : List (List UInt8)) : ((ns.map (fun x => (47 : UInt8) :: x)).flatten).length = sumL ns := by
  induction ns with
  | nil => rfl
  | cons x r ih => simp only [List.map_cons, List.flatten_cons, List.length_append, ih, sumL, List.length_cons, List.sum_cons]; omega
theorem sumL_take (ns : List (List UInt8)) (i : Nat) : sumL (ns.take i) ≤ sumL ns := by
  have := flat_len (ns.take i)
  have h2 := flat_len ns
  rw [← flat_len, ← flat_len]
  have e : (ns.map (fun x => (47 : UInt8) :: x)).flatten = ((ns.take i).map (fun x => (47 : UInt8) :: x)).flatten ++ ((ns.drop i).map (fun x => (47 : UInt8) :: x)).flatten := by
    rw [← List.flatten_append, ← List.map_append, List.take_append_drop]
  rw [e, List.length_append]
  omega

theorem refJoin_spec (w : World) (v : Value) (ns : List (List UInt8)) (hb : sumL ns ≤ 137438953472) (u : PH) (hu : u.le w) (h : SlR u v 1 (ns.map gN)) :
    Spec Tryz.prog f_ref20_Join [v] PH.no w fun rs _ => rs = [gN (joinA ns).1, .s (.int .i64 (joinA ns).2)] := by
  refine spec_val k_ref20_Join (Qf := fun rs => rs = [gN (joinA ns).1, .s (.int .i64 (joinA ns).2)]) [.ro v 1 (.s (.string ⟨#[]⟩)) (ns.map gN)] (by simp) (by simpa [AV.ok, u0_no] using h.up hu.sub) ?_
  simp (maxSteps := 2000000) only [c_ref20_Join, vc_skip, vc_ret, vc_exit, vc_seq, vc_block, vc_scope, scopeQ_n, scopeQ_r, scopeQ_e, vc_rg, vc_rgq, vc_rga, vc_ite, thenQ_n, thenQ_r, thenQ_e, blockQ_n, blockQ_r, blockQ_e, kKeep_eq, loopQ_r, loopQ_e, loopQ_n, finQ_r, finQ_n, segs_nil, segs_n, segs_g, ops_nil, ops_cons, qsegs_nil, qsegs_n, qsegs_g, qops_nil, qops_cons, ot_done, ot_op, ot_or, ot_held, oh_done, oh_op, oh_or, oh_first, oh_firstg, heldC_eq, heldF_eq, heldOk, heldK, ldH, heldM_self, heldM_one, heldM_two, heldM_three, List.contains_cons, List.contains_nil, Bool.or_false, Bool.or_true, Bool.true_or, Bool.false_or, vcqOp, vcOp, isRd, RO.isGh, skip_mk, skipL, ev, evL, gvL, scL, look, updL, put_mk, put_mk0, keep_mk, keepL, rowE, rowD, bndN, binV, binC, unV, GV.getT, GV.fld, GV.sz, GV.same, GV.setT, Value.oneCell', cond_true, cond_false, Nat.reduceEqDiff, Nat.reduceAdd, Nat.reduceMul, Nat.reduceSub, Nat.reduceBEq, Nat.reduceLeDiff, ↓reduceIte, reduceCtorEq, List.nil_append, List.cons_append, List.append_nil, Nat.zero_add, Nat.add_zero, Bool.and_true, Bool.true_and, Bool.not_true, Bool.not_false, BEq.rfl, decide_true, decide_false, true_and, and_true, initF, initP, List.map_cons, List.map_nil, Option.map_some, szAll, List.length_cons, List.length_nil, finW_r, finW_n, resL, resOne, Option.bind_some, true_imp_iff, false_imp_iff, Bool.true_eq_false, Bool.false_eq_true, Int.toNat_natCast, Int.reduceToNat, Int.reduceLE, Int.reduceLT, Int.reduceAdd, Int.reduceSub, Int.reduceEq, decide_eq_true_eq, decide_eq_false_iff_not, kill, SV.mentions, ne_eq, not_false_eq_true, not_true_eq_false, List.drop_zero, List.take_succ_cons, List.take_zero, dOk, ↓br_tt, ↓br_ff, ↓br_tf, ↓br_ft, br_t, br_f, Bool.bne_false, Bool.bne_true, GV.bldT, GV.bldC, gVec_get, gVec_set, gVec_arr, gVec_fits, gVec_sz, gVec_sameT, gVec_zero, gVec_isS, gVec2_get, gVec2_arr, gVec2_fits, gVec2_sz, gVec2_sameT, gVec2_zero, gVec2_set, same_int, getT_nil, setT_nil, getD_gi, List.length_map, fits_s, fits_c, fits_ar, arr_ar, get_nil, mkS_size, getD_gN, getD_gb, mkS_at, mkS_e0, mkS_e46, mkS_e4646, mkS_e47, mkS_ext, List.length_map]
  have hln := sumL_len ns
  refine vc_loop (ι := Nat) (fun i => ⟨[(0, .row 0 0 (ns.length)), (4, .g (.s (.string (mkS ((ns.take i).map (fun x => (47 : UInt8) :: x)).flatten)))), (5, .g (.s (.int .i64 (i))))], [(0, .ro 1 (.s (.string ⟨#[]⟩)) (ns.map gN))], [], PH.no⟩) (fun i => i ≤ ns.length ∧ ∀ j, j < i → nameA (ns.getD j []) = true) (fun i => ns.length - i) 0 (by simp) (ge_of ?_ ?_ rfl rfl rfl) ?_
  · simp [frIn, look, mkS]
  · simp [pvIn, look]
  rintro i ⟨hi, hj⟩
  generalize hQ : loopQ _ _ _ _ _ = Q
  simp (maxSteps := 2000000) only [c_ref20_Join_L0, vc_skip, vc_ret, vc_exit, vc_seq, vc_block, vc_scope, scopeQ_n, scopeQ_r, scopeQ_e, vc_rg, vc_rgq, vc_rga, vc_ite, thenQ_n, thenQ_r, thenQ_e, blockQ_n, blockQ_r, blockQ_e, kKeep_eq, loopQ_r, loopQ_e, loopQ_n, finQ_r, finQ_n, segs_nil, segs_n, segs_g, ops_nil, ops_cons, qsegs_nil, qsegs_n, qsegs_g, qops_nil, qops_cons, ot_done, ot_op, ot_or, ot_held, oh_done, oh_op, oh_or, oh_first, oh_firstg, heldC_eq, heldF_eq, heldOk, heldK, ldH, heldM_self, heldM_one, heldM_two, heldM_three, List.contains_cons, List.contains_nil, Bool.or_false, Bool.or_true, Bool.true_or, Bool.false_or, vcqOp, vcOp, isRd, RO.isGh, skip_mk, skipL, ev, evL, gvL, scL, look, updL, put_mk, put_mk0, keep_mk, keepL, rowE, rowD, bndN, binV, binC, unV, GV.getT, GV.fld, GV.sz, GV.same, GV.setT, Value.oneCell', cond_true, cond_false, Nat.reduceEqDiff, Nat.reduceAdd, Nat.reduceMul, Nat.reduceSub, Nat.reduceBEq, Nat.reduceLeDiff, ↓reduceIte, reduceCtorEq, List.nil_append, List.cons_append, List.append_nil, Nat.zero_add, Nat.add_zero, Bool.and_true, Bool.true_and, Bool.not_true, Bool.not_false, BEq.rfl, decide_true, decide_false, true_and, and_true, initF, initP, List.map_cons, List.map_nil, Option.map_some, szAll, List.length_cons, List.length_nil, finW_r, finW_n, resL, resOne, Option.bind_some, true_imp_iff, false_imp_iff, Bool.true_eq_false, Bool.false_eq_true, Int.toNat_natCast, Int.reduceToNat, Int.reduceLE, Int.reduceLT, Int.reduceAdd, Int.reduceSub, Int.reduceEq, decide_eq_true_eq, decide_eq_false_iff_not, kill, SV.mentions, ne_eq, not_false_eq_true, not_true_eq_false, List.drop_zero, List.take_succ_cons, List.take_zero, dOk, ↓br_tt, ↓br_ff, ↓br_tf, ↓br_ft, br_t, br_f, Bool.bne_false, Bool.bne_true, GV.bldT, GV.bldC, gVec_get, gVec_set, gVec_arr, gVec_fits, gVec_sz, gVec_sameT, gVec_zero, gVec_isS, gVec2_get, gVec2_arr, gVec2_fits, gVec2_sz, gVec2_sameT, gVec2_zero, gVec2_set, same_int, getT_nil, setT_nil, getD_gi, List.length_map, fits_s, fits_c, fits_ar, arr_ar, get_nil, mkS_size, getD_gN, getD_gb, mkS_at, mkS_e0, mkS_e46, mkS_e4646, mkS_e47, mkS_ext, List.length_map]
  refine ⟨fun hlt => ⟨by omega, ?_⟩, fun hlt => ?_⟩
  · have hmem : ns.getD i [] ∈ ns := by
      rw [List.getD_eq_getElem?_getD, List.getElem?_eq_getElem (by omega)]; exact List.getElem_mem _
    have hml := sumL_mem hmem
    refine call_fnv (ref_Name_fn (ns.getD i []) (by omega)) rfl rfl rfl fun _ => ?_
    simp (maxSteps := 2000000) only [retS, vc_skip, vc_ret, vc_exit, vc_seq, vc_block, vc_scope, scopeQ_n, scopeQ_r, scopeQ_e, vc_rg, vc_rgq, vc_rga, vc_ite, thenQ_n, thenQ_r, thenQ_e, blockQ_n, blockQ_r, blockQ_e, kKeep_eq, loopQ_r, loopQ_e, loopQ_n, finQ_r, finQ_n, segs_nil, segs_n, segs_g, ops_nil, ops_cons, qsegs_nil, qsegs_n, qsegs_g, qops_nil, qops_cons, ot_done, ot_op, ot_or, ot_held, oh_done, oh_op, oh_or, oh_first, oh_firstg, heldC_eq, heldF_eq, heldOk, heldK, ldH, heldM_self, heldM_one, heldM_two, heldM_three, List.contains_cons, List.contains_nil, Bool.or_false, Bool.or_true, Bool.true_or, Bool.false_or, vcqOp, vcOp, isRd, RO.isGh, skip_mk, skipL, ev, evL, gvL, scL, look, updL, put_mk, put_mk0, keep_mk, keepL, rowE, rowD, bndN, binV, binC, unV, GV.getT, GV.fld, GV.sz, GV.same, GV.setT, Value.oneCell', cond_true, cond_false, Nat.reduceEqDiff, Nat.reduceAdd, Nat.reduceMul, Nat.reduceSub, Nat.reduceBEq, Nat.reduceLeDiff, ↓reduceIte, reduceCtorEq, List.nil_append, List.cons_append, List.append_nil, Nat.zero_add, Nat.add_zero, Bool.and_true, Bool.true_and, Bool.not_true, Bool.not_false, BEq.rfl, decide_true, decide_false, true_and, and_true, initF, initP, List.map_cons, List.map_nil, Option.map_some, szAll, List.length_cons, List.length_nil, finW_r, finW_n, resL, resOne, Option.bind_some, true_imp_iff, false_imp_iff, Bool.true_eq_false, Bool.false_eq_true, Int.toNat_natCast, Int.reduceToNat, Int.reduceLE, Int.reduceLT, Int.reduceAdd, Int.reduceSub, Int.reduceEq, decide_eq_true_eq, decide_eq_false_iff_not, kill, SV.mentions, ne_eq, not_false_eq_true, not_true_eq_false, List.drop_zero, List.take_succ_cons, List.take_zero, dOk, ↓br_tt, ↓br_ff, ↓br_tf, ↓br_ft, br_t, br_f, Bool.bne_false, Bool.bne_true, GV.bldT, GV.bldC, gVec_get, gVec_set, gVec_arr, gVec_fits, gVec_sz, gVec_sameT, gVec_zero, gVec_isS, gVec2_get, gVec2_arr, gVec2_fits, gVec2_sz, gVec2_sameT, gVec2_zero, gVec2_set, same_int, getT_nil, setT_nil, getD_gi, List.length_map, fits_s, fits_c, fits_ar, arr_ar, get_nil, mkS_size, getD_gN, getD_gb, mkS_at, mkS_e0, mkS_e46, mkS_e4646, mkS_e47, mkS_ext, List.length_map]
    refine ⟨fun h => ?_, fun h => ?_⟩
    · subst hQ
      simp (maxSteps := 2000000) only [vc_skip, vc_ret, vc_exit, vc_seq, vc_block, vc_scope, scopeQ_n, scopeQ_r, scopeQ_e, vc_rg, vc_rgq, vc_rga, vc_ite, thenQ_n, thenQ_r, thenQ_e, blockQ_n, blockQ_r, blockQ_e, kKeep_eq, loopQ_r, loopQ_e, loopQ_n, finQ_r, finQ_n, segs_nil, segs_n, segs_g, ops_nil, ops_cons, qsegs_nil, qsegs_n, qsegs_g, qops_nil, qops_cons, ot_done, ot_op, ot_or, ot_held, oh_done, oh_op, oh_or, oh_first, oh_firstg, heldC_eq, heldF_eq, heldOk, heldK, ldH, heldM_self, heldM_one, heldM_two, heldM_three, List.contains_cons, List.contains_nil, Bool.or_false, Bool.or_true, Bool.true_or, Bool.false_or, vcqOp, vcOp, isRd, RO.isGh, skip_mk, skipL, ev, evL, gvL, scL, look, updL, put_mk, put_mk0, keep_mk, keepL, rowE, rowD, bndN, binV, binC, unV, GV.getT, GV.fld, GV.sz, GV.same, GV.setT, Value.oneCell', cond_true, cond_false, Nat.reduceEqDiff, Nat.reduceAdd, Nat.reduceMul, Nat.reduceSub, Nat.reduceBEq, Nat.reduceLeDiff, ↓reduceIte, reduceCtorEq, List.nil_append, List.cons_append, List.append_nil, Nat.zero_add, Nat.add_zero, Bool.and_true, Bool.true_and, Bool.not_true, Bool.not_false, BEq.rfl, decide_true, decide_false, true_and, and_true, initF, initP, List.map_cons, List.map_nil, Option.map_some, szAll, List.length_cons, List.length_nil, finW_r, finW_n, resL, resOne, Option.bind_some, true_imp_iff, false_imp_iff, Bool.true_eq_false, Bool.false_eq_true, Int.toNat_natCast, Int.reduceToNat, Int.reduceLE, Int.reduceLT, Int.reduceAdd, Int.reduceSub, Int.reduceEq, decide_eq_true_eq, decide_eq_false_iff_not, kill, SV.mentions, ne_eq, not_false_eq_true, not_true_eq_false, List.drop_zero, List.take_succ_cons, List.take_zero, dOk, ↓br_tt, ↓br_ff, ↓br_tf, ↓br_ft, br_t, br_f, Bool.bne_false, Bool.bne_true, GV.bldT, GV.bldC, gVec_get, gVec_set, gVec_arr, gVec_fits, gVec_sz, gVec_sameT, gVec_zero, gVec_isS, gVec2_get, gVec2_arr, gVec2_fits, gVec2_sz, gVec2_sameT, gVec2_zero, gVec2_set, same_int, getT_nil, setT_nil, getD_gi, List.length_map, fits_s, fits_c, fits_ar, arr_ar, get_nil, mkS_size, getD_gN, getD_gb, mkS_at, mkS_e0, mkS_e46, mkS_e4646, mkS_e47, mkS_ext, List.length_map]
      rw [joinA, wrongA_bad (i := i) (by omega) (by simpa using h)]
      rfl
    · have e1 : ns.take (i + 1) = ns.take i ++ [ns.getD i []] := by
        rw [List.take_add_one, List.getD_eq_getElem?_getD, List.getElem?_eq_getElem (by omega)]; rfl
      have hsz : ({ data := #[47] } ++ mkS (ns.getD i []) : ByteArray) = mkS (47 :: ns.getD i []) := by
        rw [show ({ data := #[47] } : ByteArray) = mkS [47] from rfl, mkS_app]; rfl
      have hfl := flat_len (ns.take i)
      have hst := sumL_take ns i
      refine ⟨⟨by omega, by omega⟩, ?_, ?_, ?_⟩
      · have : ({ data := #[47] } : ByteArray).size = 1 := rfl
        omega
      · rw [hsz, mkS_size]; simp only [List.length_cons]; omega
      rw [hsz, mkS_app]
      subst hQ; simp only [loopQ_n]; refine ⟨i + 1, ?_, ?_, ge_of ?_ ?_ rfl rfl rfl⟩
      · refine ⟨by omega, fun j hj2 => ?_⟩
        rcases Nat.lt_succ_iff_lt_or_eq.1 hj2 with h4 | rfl
        · exact hj j h4
        · simpa using h
      · omega
      · simp only [frIn, vc_skip, vc_ret, vc_exit, vc_seq, vc_block, vc_scope, scopeQ_n, scopeQ_r, scopeQ_e, vc_rg, vc_rgq, vc_rga, vc_ite, thenQ_n, thenQ_r, thenQ_e, blockQ_n, blockQ_r, blockQ_e, kKeep_eq, loopQ_r, loopQ_e, loopQ_n, finQ_r, finQ_n, segs_nil, segs_n, segs_g, ops_nil, ops_cons, qsegs_nil, qsegs_n, qsegs_g, qops_nil, qops_cons, ot_done, ot_op, ot_or, ot_held, oh_done, oh_op, oh_or, oh_first, oh_firstg, heldC_eq, heldF_eq, heldOk, heldK, ldH, heldM_self, heldM_one, heldM_two, heldM_three, List.contains_cons, List.contains_nil, Bool.or_false, Bool.or_true, Bool.true_or, Bool.false_or, vcqOp, vcOp, isRd, RO.isGh, skip_mk, skipL, ev, evL, gvL, scL, look, updL, put_mk, put_mk0, keep_mk, keepL, rowE, rowD, bndN, binV, binC, unV, GV.getT, GV.fld, GV.sz, GV.same, GV.setT, Value.oneCell', cond_true, cond_false, Nat.reduceEqDiff, Nat.reduceAdd, Nat.reduceMul, Nat.reduceSub, Nat.reduceBEq, Nat.reduceLeDiff, ↓reduceIte, reduceCtorEq, List.nil_append, List.cons_append, List.append_nil, Nat.zero_add, Nat.add_zero, Bool.and_true, Bool.true_and, Bool.not_true, Bool.not_false, BEq.rfl, decide_true, decide_false, true_and, and_true, initF, initP, List.map_cons, List.map_nil, Option.map_some, szAll, List.length_cons, List.length_nil, finW_r, finW_n, resL, resOne, Option.bind_some, true_imp_iff, false_imp_iff, Bool.true_eq_false, Bool.false_eq_true, Int.toNat_natCast, Int.reduceToNat, Int.reduceLE, Int.reduceLT, Int.reduceAdd, Int.reduceSub, Int.reduceEq, decide_eq_true_eq, decide_eq_false_iff_not, kill, SV.mentions, ne_eq, not_false_eq_true, not_true_eq_false, List.drop_zero, List.take_succ_cons, List.take_zero, dOk, ↓br_tt, ↓br_ff, ↓br_tf, ↓br_ft, br_t, br_f, Bool.bne_false, Bool.bne_true, GV.bldT, GV.bldC]
        rw [wrap_n (by omega), e1, join_step]
        try simp
      · simp [pvIn, look]
  · subst hQ
    obtain rfl : i = ns.length := by omega
    simp (maxSteps := 2000000) only [vc_skip, vc_ret, vc_exit, vc_seq, vc_block, vc_scope, scopeQ_n, scopeQ_r, scopeQ_e, vc_rg, vc_rgq, vc_rga, vc_ite, thenQ_n, thenQ_r, thenQ_e, blockQ_n, blockQ_r, blockQ_e, kKeep_eq, loopQ_r, loopQ_e, loopQ_n, finQ_r, finQ_n, segs_nil, segs_n, segs_g, ops_nil, ops_cons, qsegs_nil, qsegs_n, qsegs_g, qops_nil, qops_cons, ot_done, ot_op, ot_or, ot_held, oh_done, oh_op, oh_or, oh_first, oh_firstg, heldC_eq, heldF_eq, heldOk, heldK, ldH, heldM_self, heldM_one, heldM_two, heldM_three, List.contains_cons, List.contains_nil, Bool.or_false, Bool.or_true, Bool.true_or, Bool.false_or, vcqOp, vcOp, isRd, RO.isGh, skip_mk, skipL, ev, evL, gvL, scL, look, updL, put_mk, put_mk0, keep_mk, keepL, rowE, rowD, bndN, binV, binC, unV, GV.getT, GV.fld, GV.sz, GV.same, GV.setT, Value.oneCell', cond_true, cond_false, Nat.reduceEqDiff, Nat.reduceAdd, Nat.reduceMul, Nat.reduceSub, Nat.reduceBEq, Nat.reduceLeDiff, ↓reduceIte, reduceCtorEq, List.nil_append, List.cons_append, List.append_nil, Nat.zero_add, Nat.add_zero, Bool.and_true, Bool.true_and, Bool.not_true, Bool.not_false, BEq.rfl, decide_true, decide_false, true_and, and_true, initF, initP, List.map_cons, List.map_nil, Option.map_some, szAll, List.length_cons, List.length_nil, finW_r, finW_n, resL, resOne, Option.bind_some, true_imp_iff, false_imp_iff, Bool.true_eq_false, Bool.false_eq_true, Int.toNat_natCast, Int.reduceToNat, Int.reduceLE, Int.reduceLT, Int.reduceAdd, Int.reduceSub, Int.reduceEq, decide_eq_true_eq, decide_eq_false_iff_not, kill, SV.mentions, ne_eq, not_false_eq_true, not_true_eq_false, List.drop_zero, List.take_succ_cons, List.take_zero, dOk, ↓br_tt, ↓br_ff, ↓br_tf, ↓br_ft, br_t, br_f, Bool.bne_false, Bool.bne_true, GV.bldT, GV.bldC, gVec_get, gVec_set, gVec_arr, gVec_fits, gVec_sz, gVec_sameT, gVec_zero, gVec_isS, gVec2_get, gVec2_arr, gVec2_fits, gVec2_sz, gVec2_sameT, gVec2_zero, gVec2_set, same_int, getT_nil, setT_nil, getD_gi, List.length_map, fits_s, fits_c, fits_ar, arr_ar, get_nil, mkS_size, getD_gN, getD_gb, mkS_at, mkS_e0, mkS_e46, mkS_e4646, mkS_e47, mkS_ext, List.length_map]
    have hw := wrongA_all hj
    rw [List.take_length]
    refine ⟨fun h1 => ?_, fun h1 => ⟨fun h2 => ?_, fun h2 => ?_⟩⟩
    · rw [if_pos (by omega)] at hw
      rw [joinA, hw]; rfl
    · rw [if_neg (by omega)] at hw
      rw [joinA, if_pos hw]
      have : ns = [] := by
        cases ns with
        | nil => rfl
        | cons x r => simp at h2
      subst this; rfl
    · rw [if_neg (by omega)] at hw
      rw [joinA, if_pos hw, join_flat ns (fun e => h2 (by subst e; rfl))]
      rfl

/-! ### Are two lists of names the same? -/
theorem names_at {ns : List (List UInt8)} {i : Nat} (hi : i < ns.length) : (ns.map gN)[i]? = some (gN (ns.getD i [])) := by
  rw [List.getElem?_map, List.getD_eq_getElem?_getD, List.getElem?_eq_getElem hi]; rfl
/-- A list of names, known as a value. -/
theorem names_shape {u : PH} {v : Value} {ns : List (List UInt8)} (h : SlR u v 1 (ns.map gN)) :
    (ns = [] ∧ ∃ a c, v = .slice a 0 c) ∨ (ns ≠ [] ∧ ∃ b o c, v = .slice (some ⟨b, o, none⟩) ns.length c ∧ ns.length ≤ c ∧ ∀ {C : Ctx} {ph : List PH} {m : PH}, KN C.u0 (m :: ph) u → ∀ i, i < ns.length → Seen C ph m b (o + i * 1) (gN (ns.getD i []))) := by
  rcases h.shape with ⟨h1, h2⟩ | ⟨h1, b, o, c, h2, h3, h4⟩
  · exact .inl ⟨by simpa using h1, h2⟩
  · refine .inr ⟨by simpa using h1, b, o, c, by simpa using h2, by simpa using h3, fun hu i hi => h4 hu i _ (names_at hi)⟩

/-- What is given out stays where it is: its value and what is known of it. -/
theorem begun_spec (w : World) (u : PH) (hu : u.le w) (hG : GlobI u) : Spec Tryz.prog f_law20_begun [] PH.no w fun rs _ => rs = [.s (.bool true)] := by
  refine spec_of k_law20_begun [] (by simp) (by simp [AV.ok]) ?_
  simp (maxSteps := 2000000) only [c_law20_begun, vc_skip, vc_ret, vc_exit, vc_seq, vc_block, vc_scope, scopeQ_n, scopeQ_r, scopeQ_e, vc_rg, vc_rgq, vc_rga, vc_ite, thenQ_n, thenQ_r, thenQ_e, blockQ_n, blockQ_r, blockQ_e, kKeep_eq, loopQ_r, loopQ_e, loopQ_n, finQ_r, finQ_n, segs_nil, segs_n, segs_g, ops_nil, ops_cons, qsegs_nil, qsegs_n, qsegs_g, qops_nil, qops_cons, ot_done, ot_op, ot_or, ot_held, oh_done, oh_op, oh_or, oh_first, oh_firstg, heldC_eq, heldF_eq, heldOk, heldK, ldH, heldM_self, heldM_one, heldM_two, heldM_three, List.contains_cons, List.contains_nil, Bool.or_false, Bool.or_true, Bool.true_or, Bool.false_or, vcqOp, vcOp, isRd, RO.isGh, skip_mk, skipL, ev, evL, gvL, scL, look, updL, put_mk, put_mk0, keep_mk, keepL, rowE, rowD, bndN, binV, binC, unV, GV.getT, GV.fld, GV.sz, GV.same, GV.setT, Value.oneCell', cond_true, cond_false, Nat.reduceEqDiff, Nat.reduceAdd, Nat.reduceMul, Nat.reduceSub, Nat.reduceBEq, Nat.reduceLeDiff, ↓reduceIte, reduceCtorEq, List.nil_append, List.cons_append, List.append_nil, Nat.zero_add, Nat.add_zero, Bool.and_true, Bool.true_and, Bool.not_true, Bool.not_false, BEq.rfl, decide_true, decide_false, true_and, and_true, initF, initP, List.map_cons, List.map_nil, Option.map_some, szAll, List.length_cons, List.length_nil, finW_r, finW_n, resL, resOne, Option.bind_some, true_imp_iff, false_imp_iff, Bool.true_eq_false, Bool.false_eq_true, Int.toNat_natCast, Int.reduceToNat, Int.reduceLE, Int.reduceLT, Int.reduceAdd, Int.reduceSub, Int.reduceEq, decide_eq_true_eq, decide_eq_false_iff_not, kill, SV.mentions, ne_eq, not_false_eq_true, not_true_eq_false, List.drop_zero, List.take_succ_cons, List.take_zero, dOk, ↓br_tt, ↓br_ff, ↓br_tf, ↓br_ft, br_t, br_f, Bool.bne_false, Bool.bne_true, GV.bldT, GV.bldC, gVec_get, gVec_set, gVec_arr, gVec_fits, gVec_sz, gVec_sameT, gVec_zero, gVec_isS, gVec2_get, gVec2_arr, gVec2_fits, gVec2_sz, gVec2_sameT, gVec2_zero, gVec2_set, same_int, getT_nil, setT_nil, getD_gi, List.length_map, fits_s, fits_c, fits_ar, arr_ar, get_nil, mkS_size, getD_gN, getD_gb, mkS_at, mkS_e0, mkS_e46, mkS_e4646, mkS_e47, mkS_ext, List.length_map]
  refine call_frz (dOk_spec rfl) rfl (Q := SplitR (splitA [47, 97, 47, 98])) (fun w' vs hv hw _ => ?_) fun rs m' hok hq => ?_
  · obtain ⟨vs, rfl, _, hv⟩ := argsV_g hv
    obtain rfl := argsV_nil hv
    exact pSplit_spec w' [47, 97, 47, 98] (by decide) u (fun b o hb => hw b o (by rw [u0_no]; exact hu b o hb)) hG
  have e1 : splitA [47, 97, 47, 98] = ([[97], [98]], 0) := by decide
  rw [e1] at hq
  obtain ⟨v, rfl, hv⟩ := hq
  simp (maxSteps := 2000000) only [retS, vc_skip, vc_ret, vc_exit, vc_seq, vc_block, vc_scope, scopeQ_n, scopeQ_r, scopeQ_e, vc_rg, vc_rgq, vc_rga, vc_ite, thenQ_n, thenQ_r, thenQ_e, blockQ_n, blockQ_r, blockQ_e, kKeep_eq, loopQ_r, loopQ_e, loopQ_n, finQ_r, finQ_n, segs_nil, segs_n, segs_g, ops_nil, ops_cons, qsegs_nil, qsegs_n, qsegs_g, qops_nil, qops_cons, ot_done, ot_op, ot_or, ot_held, oh_done, oh_op, oh_or, oh_first, oh_firstg, heldC_eq, heldF_eq, heldOk, heldK, ldH, heldM_self, heldM_one, heldM_two, heldM_three, List.contains_cons, List.contains_nil, Bool.or_false, Bool.or_true, Bool.true_or, Bool.false_or, vcqOp, vcOp, isRd, RO.isGh, skip_mk, skipL, ev, evL, gvL, scL, look, updL, put_mk, put_mk0, keep_mk, keepL, rowE, rowD, bndN, binV, binC, unV, GV.getT, GV.fld, GV.sz, GV.same, GV.setT, Value.oneCell', cond_true, cond_false, Nat.reduceEqDiff, Nat.reduceAdd, Nat.reduceMul, Nat.reduceSub, Nat.reduceBEq, Nat.reduceLeDiff, ↓reduceIte, reduceCtorEq, List.nil_append, List.cons_append, List.append_nil, Nat.zero_add, Nat.add_zero, Bool.and_true, Bool.true_and, Bool.not_true, Bool.not_false, BEq.rfl, decide_true, decide_false, true_and, and_true, initF, initP, List.map_cons, List.map_nil, Option.map_some, szAll, List.length_cons, List.length_nil, finW_r, finW_n, resL, resOne, Option.bind_some, true_imp_iff, false_imp_iff, Bool.true_eq_false, Bool.false_eq_true, Int.toNat_natCast, Int.reduceToNat, Int.reduceLE, Int.reduceLT, Int.reduceAdd, Int.reduceSub, Int.reduceEq, decide_eq_true_eq, decide_eq_false_iff_not, kill, SV.mentions, ne_eq, not_false_eq_true, not_true_eq_false, List.drop_zero, List.take_succ_cons, List.take_zero, dOk, ↓br_tt, ↓br_ff, ↓br_tf, ↓br_ft, br_t, br_f, Bool.bne_false, Bool.bne_true, GV.bldT, GV.bldC, gVec_get, gVec_set, gVec_arr, gVec_fits, gVec_sz, gVec_sameT, gVec_zero, gVec_isS, gVec2_get, gVec2_arr, gVec2_fits, gVec2_sz, gVec2_sameT, gVec2_zero, gVec2_set, same_int, getT_nil, setT_nil, getD_gi, List.length_map, fits_s, fits_c, fits_ar, arr_ar, get_nil, mkS_size, getD_gN, getD_gb, mkS_at, mkS_e0, mkS_e46, mkS_e4646, mkS_e47, mkS_ext, List.length_map]
  refine call_is _ [gN [47, 97, 47, 98], .s (.int .i64 0)] rfl rfl (fun w' vs hv' hw => ?_) ?_
  · obtain ⟨v', vs, rfl, g1, hv'⟩ := argsV_row (z := 1) (xs := [[97], [98]].map gN) rfl (by simp) hv'
    obtain rfl := argsV_nil hv'
    intro _
    have := pJoin_spec w' v' [[97], [98]] (by decide) w'.ph (fun _ _ h => h) g1
    rwa [show joinA [[97], [98]] = ([47, 97, 47, 98], 0) by decide] at this
  simp (maxSteps := 2000000) only [retS, gN, List.getElem?_cons_zero, List.getElem?_cons_succ, Int.cast_ofNat_Int, vc_skip, vc_ret, vc_exit, vc_seq, vc_block, vc_scope, scopeQ_n, scopeQ_r, scopeQ_e, vc_rg, vc_rgq, vc_rga, vc_ite, thenQ_n, thenQ_r, thenQ_e, blockQ_n, blockQ_r, blockQ_e, kKeep_eq, loopQ_r, loopQ_e, loopQ_n, finQ_r, finQ_n, segs_nil, segs_n, segs_g, ops_nil, ops_cons, qsegs_nil, qsegs_n, qsegs_g, qops_nil, qops_cons, ot_done, ot_op, ot_or, ot_held, oh_done, oh_op, oh_or, oh_first, oh_firstg, heldC_eq, heldF_eq, heldOk, heldK, ldH, heldM_self, heldM_one, heldM_two, heldM_three, List.contains_cons, List.contains_nil, Bool.or_false, Bool.or_true, Bool.true_or, Bool.false_or, vcqOp, vcOp, isRd, RO.isGh, skip_mk, skipL, ev, evL, gvL, scL, look, updL, put_mk, put_mk0, keep_mk, keepL, rowE, rowD, bndN, binV, binC, unV, GV.getT, GV.fld, GV.sz, GV.same, GV.setT, Value.oneCell', cond_true, cond_false, Nat.reduceEqDiff, Nat.reduceAdd, Nat.reduceMul, Nat.reduceSub, Nat.reduceBEq, Nat.reduceLeDiff, ↓reduceIte, reduceCtorEq, List.nil_append, List.cons_append, List.append_nil, Nat.zero_add, Nat.add_zero, Bool.and_true, Bool.true_and, Bool.not_true, Bool.not_false, BEq.rfl, decide_true, decide_false, true_and, and_true, initF, initP, List.map_cons, List.map_nil, Option.map_some, szAll, List.length_cons, List.length_nil, finW_r, finW_n, resL, resOne, Option.bind_some, true_imp_iff, false_imp_iff, Bool.true_eq_false, Bool.false_eq_true, Int.toNat_natCast, Int.reduceToNat, Int.reduceLE, Int.reduceLT, Int.reduceAdd, Int.reduceSub, Int.reduceEq, decide_eq_true_eq, decide_eq_false_iff_not, kill, SV.mentions, ne_eq, not_false_eq_true, not_true_eq_false, List.drop_zero, List.take_succ_cons, List.take_zero, dOk, ↓br_tt, ↓br_ff, ↓br_tf, ↓br_ft, br_t, br_f, Bool.bne_false, Bool.bne_true, GV.bldT, GV.bldC, gVec_get, gVec_set, gVec_arr, gVec_fits, gVec_sz, gVec_sameT, gVec_zero, gVec_isS, gVec2_get, gVec2_arr, gVec2_fits, gVec2_sz, gVec2_sameT, gVec2_zero, gVec2_set, same_int, getT_nil, setT_nil, getD_gi, List.length_map, fits_s, fits_c, fits_ar, arr_ar, get_nil, mkS_size, getD_gN, getD_gb, mkS_at, mkS_e0, mkS_e46, mkS_e4646, mkS_e47, mkS_ext, List.length_map]
  refine gh_rk 1 1 (.s (.string ⟨#[]⟩)) rfl rfl hv.toR (KN.mem (by simp)) ?_
  simp (maxSteps := 2000000) only [gN, List.getD_cons_zero, List.getD_cons_succ, Int.cast_ofNat_Int, List.length_map, mkS_eq, vc_skip, vc_ret, vc_exit, vc_seq, vc_block, vc_scope, scopeQ_n, scopeQ_r, scopeQ_e, vc_rg, vc_rgq, vc_rga, vc_ite, thenQ_n, thenQ_r, thenQ_e, blockQ_n, blockQ_r, blockQ_e, kKeep_eq, loopQ_r, loopQ_e, loopQ_n, finQ_r, finQ_n, segs_nil, segs_n, segs_g, ops_nil, ops_cons, qsegs_nil, qsegs_n, qsegs_g, qops_nil, qops_cons, ot_done, ot_op, ot_or, ot_held, oh_done, oh_op, oh_or, oh_first, oh_firstg, heldC_eq, heldF_eq, heldOk, heldK, ldH, heldM_self, heldM_one, heldM_two, heldM_three, List.contains_cons, List.contains_nil, Bool.or_false, Bool.or_true, Bool.true_or, Bool.false_or, vcqOp, vcOp, isRd, RO.isGh, skip_mk, skipL, ev, evL, gvL, scL, look, updL, put_mk, put_mk0, keep_mk, keepL, rowE, rowD, bndN, binV, binC, unV, GV.getT, GV.fld, GV.sz, GV.same, GV.setT, Value.oneCell', cond_true, cond_false, Nat.reduceEqDiff, Nat.reduceAdd, Nat.reduceMul, Nat.reduceSub, Nat.reduceBEq, Nat.reduceLeDiff, ↓reduceIte, reduceCtorEq, List.nil_append, List.cons_append, List.append_nil, Nat.zero_add, Nat.add_zero, Bool.and_true, Bool.true_and, Bool.not_true, Bool.not_false, BEq.rfl, decide_true, decide_false, true_and, and_true, initF, initP, List.map_cons, List.map_nil, Option.map_some, szAll, List.length_cons, List.length_nil, finW_r, finW_n, resL, resOne, Option.bind_some, true_imp_iff, false_imp_iff, Bool.true_eq_false, Bool.false_eq_true, Int.toNat_natCast, Int.reduceToNat, Int.reduceLE, Int.reduceLT, Int.reduceAdd, Int.reduceSub, Int.reduceEq, decide_eq_true_eq, decide_eq_false_iff_not, kill, SV.mentions, ne_eq, not_false_eq_true, not_true_eq_false, List.drop_zero, List.take_succ_cons, List.take_zero, dOk, ↓br_tt, ↓br_ff, ↓br_tf, ↓br_ft, br_t, br_f, Bool.bne_false, Bool.bne_true, GV.bldT, GV.bldC, gVec_get, gVec_set, gVec_arr, gVec_fits, gVec_sz, gVec_sameT, gVec_zero, gVec_isS, gVec2_get, gVec2_arr, gVec2_fits, gVec2_sz, gVec2_sameT, gVec2_zero, gVec2_set, same_int, getT_nil, setT_nil, getD_gi, List.length_map, fits_s, fits_c, fits_ar, arr_ar, get_nil, mkS_size, getD_gN, getD_gb, mkS_at, mkS_e0, mkS_e46, mkS_e4646, mkS_e47, mkS_ext, List.length_map]
  exact ⟨fun _ => ⟨fun _ => ⟨fun _ => fin_m PH.no rfl (fun _ _ h => h) rfl, fun h => absurd rfl h⟩, fun h => absurd rfl h⟩, fun h => absurd rfl h⟩

theorem splitA_len (p : List UInt8) : (splitA p).1.length ≤ 64 := by
  by_cases h : (splitA p).2 = 0
  · exact (wrongA_ok (join_split (p := p) (ns := (splitA p).1) (by rw [← h])).1).2
  · rw [splitA_err h]; simp
theorem splitA_names {p n : List UInt8} (hn : n ∈ (splitA p).1) : nameA n = true := by
  by_cases h : (splitA p).2 = 0
  · exact (wrongA_ok (join_split (p := p) (ns := (splitA p).1) (by rw [← h])).1).1 n hn
  · rw [splitA_err h] at hn; cases hn
theorem sumL_le : ∀ {ns : List (List UInt8)}, (∀ n ∈ ns, nameA n = true) → sumL ns ≤ 256 * ns.length
  | [], _ => by simp [sumL]
  | x :: r, h => by
    have h1 := nameA_len (h x (by simp))
    have h2 := sumL_le (ns := r) fun n hn => h n (by simp [hn])
    simp only [sumL, List.map_cons, List.sum_cons, List.length_cons] at h2 ⊢
    omega

end Go.Proofs.YtnoeabmpdjpfaaaGreatDoor.Vc.Pa

/- The way from a node up to the root, and its names: plain. -/
set_option linter.unusedVariables false
set_option linter.unusedSimpArgs false
namespace Go.Proofs.YtnoeabmpdjpfaaaGreatDoor.Vc
open Go

/-- The name of a node, byte by byte. -/
def nameL (T : PT) (n : Int) : List UInt8 := ((T.get n).map fun x => x.name.data.toList).getD []
theorem nameL_get {T : PT} {n : Int} {x : PN} (h : T.get n = some x) : nameL T n = x.name.data.toList := by rw [nameL, h]; rfl
theorem nameL_mk {T : PT} {n : Int} {x : PN} (h : T.get n = some x) : Pa.mkS (nameL T n) = x.name := by rw [nameL_get h, Pa.mkS_of]
/-- These are the nodes up to the root, the root left out. -/
def Way (T : PT) : List Int → Int → Prop
  | [], n => n = 1
  | m :: l, n => n = m ∧ topB n = false ∧ ∃ x, T.get n = some x ∧ Way T l x.parent
theorem Way.uniq {T : PT} : ∀ {l : List Int} {a b : Int}, Way T l a → Way T l b → a = b
  | [], _, _, h, h' => by rw [show _ = _ from h, show _ = _ from h']
  | _ :: _, _, _, h, h' => by rw [h.1, h'.1]
theorem Way.drop {T : PT} : ∀ {l : List Int} {n : Int} (j : Nat), Way T l n → ∃ m, Way T (l.drop j) m
  | l, n, 0, h => ⟨n, h⟩
  | [], n, j + 1, h => ⟨n, h⟩
  | _ :: l, n, j + 1, h => by
    obtain ⟨_, _, x, _, h⟩ := h
    obtain ⟨m, hm⟩ := h.drop j
    exact ⟨m, by simpa using hm⟩
theorem Way.mem {T : PT} : ∀ {l : List Int} {n m : Int}, Way T l n → m ∈ l → topB m = false ∧ ∃ x, T.get m = some x
  | [], _, _, _, hm => by simp at hm
  | a :: l, n, m, ⟨e, h1, x, h2, h3⟩, hm => by
    rcases List.mem_cons.1 hm with rfl | hm
    · subst e; exact ⟨h1, x, h2⟩
    · exact h3.mem hm
theorem way_of {T : PT} : ∀ {k f : Nat} {n : Int}, LeadsN T.view k n → k < f → belowA T f n 2 = false → ∃ l, l.length = k ∧ Way T l n
  | 0, 0, n, h, hf, _ => by omega
  | 0, f + 1, n, h, _, hb => by
    refine ⟨[], rfl, ?_⟩
    rcases topB_iff.1 (show topB n = true from h) with e | e
    · exact e
    · rw [belowA, if_pos e] at hb; cases hb
  | k + 1, 0, n, h, hf, _ => by omega
  | k + 1, f + 1, n, h, hf, hb => by
    obtain ⟨ht, a, h1, h2⟩ := h
    obtain ⟨x, hx, rfl⟩ := get_of_view h1
    unfold belowA at hb
    by_cases hn : n = 2
    · rw [if_pos hn] at hb; cases hb
    · rw [if_neg hn, hx] at hb
      simp only at hb
      rw [ht] at hb
      simp only [Bool.false_eq_true, if_false] at hb
      obtain ⟨l, e, hl⟩ := way_of (k := k) (f := f) (n := x.parent) h2 (by omega) hb
      exact ⟨n :: l, by simp [e], rfl, ht, x, hx, hl⟩
theorem way_at {T : PT} {k : Nat} {n : Int} (hok : T.ok k) (hg : VGood T.view) (hn : T.has n = true) (hb : T.below n 2 = false) : ∃ l, l.length ≤ k + 2 ∧ Way T l n := by
  obtain ⟨j, hj⟩ := hg.led n (has_iff.1 hn)
  have hf := hj.few
  obtain ⟨l, e, hl⟩ := way_of hj (by omega) hb
  exact ⟨l, by have := hok.many; omega, hl⟩
theorem Way.name {T : PT} (hg : VGood T.view) {l : List Int} {n m : Int} (h : Way T l n) (hm : m ∈ l) : Pa.nameA (nameL T m) = true := by
  obtain ⟨h1, x, h2⟩ := h.mem hm
  have : nameB x.name = true := hg.name m _ (PT.view_get h2) h1
  rw [nameL_get h2]
  exact this
/-- The names from the root down. -/
def namesW (T : PT) (l : List Int) : List (List UInt8) := (l.map (nameL T)).reverse
theorem namesW_cons (T : PT) (m : Int) (l : List Int) : namesW T (m :: l) = namesW T l ++ [nameL T m] := by simp [namesW]
theorem namesW_len (T : PT) (l : List Int) : (namesW T l).length = l.length := by simp [namesW]
theorem Way.wrong {T : PT} (hg : VGood T.view) {l : List Int} {n : Int} (h : Way T l n) (hl : l.length ≤ 64) : Pa.wrongA (namesW T l) = 0 :=
  Pa.wrongA_of (fun x hx => by
    obtain ⟨m, hm, rfl⟩ := List.mem_map.1 (List.mem_reverse.1 hx)
    exact h.name hg hm) (by rw [namesW_len]; exact hl)
/-- None of its parent's children with its name is less. -/
def Alone (T : PT) (m : Int) : Prop := ∀ x y, T.get m = some x → T.get x.parent = some y → ∀ c ∈ y.kids, T.nameIs c x.name → m ≤ c
theorem look_alone {T : PT} (hkd : T.kidsOk) (hg : VGood T.view) {m best : Int} {x y : PN} (hx : T.get m = some x) (ht : topB m = false) (hy : T.get x.parent = some y) (h : LookP T x.name y.kids best) : best ≠ 0 ∧ (best = m ↔ Alone T m) := by
  have hm : m ∈ y.kids := (hkd.mem _ y m hy).2 ⟨ht, x, hx, rfl⟩
  have hn : T.nameIs m x.name := ⟨x, hx, rfl⟩
  rcases h with ⟨_, h2⟩ | ⟨h1, h2, h3⟩
  · exact absurd hn (h2 m hm)
  · have hb := h3 m hm hn
    refine ⟨fun e => ?_, fun e x' y' hx' hy' c hc hcn => ?_, fun ha => ?_⟩
    · obtain ⟨_, z, hz, _⟩ := (hkd.mem _ y best hy).1 h1
      have := hg.pos best _ (PT.view_get hz)
      omega
    · rw [hx] at hx'; cases hx'
      rw [hy] at hy'; cases hy'
      rw [← e]; exact h3 c hc hcn
    · have := ha x y hx hy best h1 h2
      omega
theorem kids_get {T : PT} (hkd : T.kidsOk) (hg : VGood T.view) {n : Int} {x : PN} (hx : T.get n = some x) : ∀ c ∈ x.kids, c ≠ 0 ∧ ∃ y, T.get c = some y := fun c hc => by
  obtain ⟨_, y, hy, _⟩ := (hkd.mem _ x c hx).1 hc
  have := hg.pos c _ (PT.view_get hy)
  exact ⟨by omega, y, hy⟩
/-- A node's parent is there. -/
theorem parent_get {T : PT} (hg : VGood T.view) {m : Int} {x : PN} (hx : T.get m = some x) (ht : topB m = false) : ∃ y, T.get x.parent = some y := by
  obtain ⟨k, hk⟩ := hg.led m (by rw [PT.view_get hx]; simp)
  cases k with
  | zero => rw [show topB m = true from hk] at ht; cases ht
  | succ k =>
    obtain ⟨_, a, h1, h2⟩ := hk
    rw [PT.view_get hx] at h1
    cases h1
    cases k with
    | zero =>
      rcases topB_iff.1 (show topB x.parent = true from h2) with e | e
      · obtain ⟨a, ha⟩ := Option.ne_none_iff_exists'.1 hg.one
        obtain ⟨y, hy, _⟩ := get_of_view ha
        rw [e]; exact ⟨y, hy⟩
      · obtain ⟨a, ha⟩ := Option.ne_none_iff_exists'.1 hg.two
        obtain ⟨y, hy, _⟩ := get_of_view ha
        rw [e]; exact ⟨y, hy⟩
    | succ k =>
      obtain ⟨_, b, h3, _⟩ := h2
      obtain ⟨y, hy, _⟩ := get_of_view h3
      exact ⟨y, hy⟩
/-- The told rows are the nodes. -/
theorem told_mem {T : PT} {r : TN} (h : r ∈ nodesTold T) : ∃ x, T.get r.node = some x ∧ r.parent = x.parent ∧ r.name = x.name := by
  obtain ⟨n, _, x, hx, e⟩ := toldL_node h
  subst e
  exact ⟨x, hx, rfl, rfl⟩
end Go.Proofs.YtnoeabmpdjpfaaaGreatDoor.Vc

/- The code of some functions of the program, its types resolved: printed by a program of this claim. -/
set_option linter.unusedVariables false
set_option maxRecDepth 100000
namespace Go.Proofs.YtnoeabmpdjpfaaaGreatDoor.Vc
open Go Go.Proofs

abbrev f_ref12_New : Nat := 26
def c_ref12_New : Cd :=
 (.seq (.rg [⟨none, [(some 0, .mv (.c (.pointer none)))]⟩] [])
 (.seq (.rg [⟨none, [(some 1, .bld (.c (.s (.int .i64 0)) (.c (.s (.int .i64 0)) (.c (.s (.string ⟨#[]⟩)) (.c (.s (.slice none 0 0)) .u)))) [(0, (.c (.int .i64 1)))]), (some 2, .bld (.c (.s (.int .i64 0)) (.c (.s (.int .i64 0)) (.c (.s (.string ⟨#[]⟩)) (.c (.s (.slice none 0 0)) .u)))) [(0, (.c (.int .i64 2)))]), (some 3, .bldS 32 4 (.c (.s (.int .i64 0)) (.c (.s (.int .i64 0)) (.c (.s (.string ⟨#[]⟩)) (.c (.s (.slice none 0 0)) .u)))) [(.t 1), (.t 2)]), (none, .gh), (some 4, .bld (.c (.s (.slice none 0 0)) (.c (.s (.slice none 0 0)) .u)) [(0, (.t 3))]), (some 5, .box 107 (.t 4)), (none, .gh), (some 0, .mv (.t 5))]⟩] [0])
 .ret))
theorem k_ref12_New : Ok Tryz.prog 26 c_ref12_New 6 [] [.tmp 0] := Ok.mk' Tryz.func26 (by kernel_rfl) (by kernel_rfl) (by kernel_rfl)

abbrev f_ref12_Tree_find : Nat := 56
def c_ref12_Tree_find_L0 : Cd :=
 (.seq (.seq (.rg [⟨none, [(some 7, .mv (.t 6)), (some 8, .mv (.t 0)), (some 9, .nilc (.t 8)), (some 10, .fldA (.t 9) 0 0), (some 11, .ld (.t 10) 1 false), (some 12, .len (.t 11)), (some 13, .bin .lss (.t 7) (.t 12)), (some 14, .mv (.t 13))]⟩, ⟨some (14, true), [(some 15, .mv (.t 0)), (some 16, .nilc (.t 15)), (some 17, .fldA (.t 16) 0 0), (some 18, .ld (.t 17) 1 false), (some 19, .mv (.t 6)), (some 20, .idxS (.t 18) (.t 19) 4), (some 21, .fldA (.t 20) 0 0), (some 22, .ld (.t 21) 1 false), (some 23, .mv (.t 1)), (some 24, .bin .lss (.t 22) (.t 23))]⟩, ⟨none, [(some 25, .pick (.t 14) (.t 24) (.c (.bool false)))]⟩] [0, 1, 6, 25])
 (.ite (.t 25)
 .skip
 (.exit 0)))
 (.block 1 (.rg [⟨none, [(some 26, .mv (.t 6)), (some 27, .bin .add (.t 26) (.c (.int .i64 1))), (some 6, .mv (.t 27))]⟩] [0, 1, 6])))
def c_ref12_Tree_find : Cd :=
 (.seq (.rg [⟨none, [(some 4, .mv (.c (.int .i64 0))), (some 5, .mv (.c (.bool false)))]⟩] [0, 1])
 (.seq (.rg [⟨none, [(some 6, .mv (.c (.int .i64 0)))]⟩] [0, 1, 6])
 (.seq (.block 0 (.loop c_ref12_Tree_find_L0))
 (.seq (.rgq [⟨none, [(some 28, .mv (.t 6)), (some 29, .mv (.t 6)), (some 30, .mv (.t 0)), (some 31, .nilc (.t 30)), (some 32, .fldA (.t 31) 0 0), (some 33, .ld (.t 32) 1 false), (some 34, .len (.t 33)), (some 35, .bin .lss (.t 29) (.t 34)), (some 36, .mv (.t 35))]⟩, ⟨some (36, true), [(some 37, .mv (.t 0)), (some 38, .nilc (.t 37)), (some 39, .fldA (.t 38) 0 0), (some 40, .ld (.t 39) 1 false), (some 41, .mv (.t 6)), (some 42, .idxS (.t 40) (.t 41) 4), (some 43, .fldA (.t 42) 0 0), (some 44, .ld (.t 43) 1 false), (some 45, .mv (.t 1)), (some 46, .bin .eql (.t 44) (.t 45))]⟩, ⟨none, [(some 47, .pick (.t 36) (.t 46) (.c (.bool false))), (some 4, .mv (.t 28))]⟩] [⟨none, [(some 5, .mv (.t 47))]⟩] [4, 5])
 .ret))))
theorem k_ref12_Tree_find : Ok Tryz.prog 56 c_ref12_Tree_find 48 [(4, 21)] [.tmp 4, .tmp 5] := Ok.mk' Tryz.func56 (by kernel_rfl) (by kernel_rfl) (by kernel_rfl)

abbrev f_ref12_clone : Nat := 55
def c_ref12_clone_L0 : Cd :=
 (.seq (.seq (.rg [⟨none, [(some 6, .mv (.t 4)), (some 7, .mv (.t 0)), (some 8, .len (.t 7)), (some 9, .bin .lss (.t 6) (.t 8))]⟩] [0, 3, 4, 9])
 (.ite (.t 9)
 .skip
 (.exit 0)))
 (.seq (.block 1 (.seq (.rg [⟨none, [(some 12, .mv (.t 0)), (some 13, .mv (.t 4)), (some 14, .idxS (.t 12) (.t 13) 4), (some 15, .ld (.t 14) 4 true), (some 5, .new 32 (.c (.s (.int .i64 0)) (.c (.s (.int .i64 0)) (.c (.s (.string ⟨#[]⟩)) (.c (.s (.slice none 0 0)) .u))))), (none, .st (.t 5) (.t 15) 4)]⟩] [0, 3, 4, 5])
 (.seq (.rg [⟨none, [(some 16, .fldA (.t 5) 3 3), (some 17, .ld (.t 16) 1 false), (none, .gh), (some 18, .app 55 2 32 (.c (.s (.string ⟨#[]⟩)) (.c (.s (.string ⟨#[]⟩)) .u)) (.c (.slice none 0 0)) (.t 17)), (none, .gh), (some 19, .fldA (.t 5) 3 3), (none, .st (.t 19) (.t 18) 1)]⟩] [0, 3, 4, 5])
 (.rg [⟨none, [(some 20, .mv (.t 3)), (some 21, .ld (.t 5) 4 true), (some 22, .bldS 32 4 (.c (.s (.int .i64 0)) (.c (.s (.int .i64 0)) (.c (.s (.string ⟨#[]⟩)) (.c (.s (.slice none 0 0)) .u)))) [(.t 21)]), (some 23, .app 32 4 56 (.c (.s (.int .i64 0)) (.c (.s (.int .i64 0)) (.c (.s (.string ⟨#[]⟩)) (.c (.s (.slice none 0 0)) .u)))) (.t 20) (.t 22)), (some 3, .mv (.t 23))]⟩] [0, 3, 4]))))
 (.rg [⟨none, [(some 10, .mv (.t 4)), (some 11, .bin .add (.t 10) (.c (.int .i64 1))), (some 4, .mv (.t 11))]⟩] [0, 3, 4])))
def c_ref12_clone : Cd :=
 (.seq (.rg [⟨none, [(some 2, .mv (.c (.slice none 0 0)))]⟩] [0])
 (.seq (.rg [⟨none, [(some 3, .mv (.c (.slice none 0 0)))]⟩] [0, 3])
 (.seq (.seq (.rg [⟨none, [(none, .gh), (some 4, .mv (.c (.int .i64 0)))]⟩] [0, 3, 4])
 (.block 0 (.loop c_ref12_clone_L0)))
 (.seq (.rg [⟨none, [(some 24, .mv (.t 3)), (none, .gh), (some 2, .mv (.t 24))]⟩] [2])
 .ret))))
theorem k_ref12_clone : Ok Tryz.prog 55 c_ref12_clone 25 [] [.tmp 2] := Ok.mk' Tryz.func55 (by kernel_rfl) (by kernel_rfl) (by kernel_rfl)

abbrev f_ref12_Tree_put : Nat := 58
def c_ref12_Tree_put : Cd :=
 (.seq (.rg [⟨none, [(some 3, .box 32 (.t 1))]⟩] [0, 3])
 (.seq (.rg [⟨none, [(some 8, .mv (.t 0)), (some 9, .fldA (.t 3) 0 0), (some 10, .ld (.t 9) 1 false), (some 11, .call 56 [(.t 8), (.t 10)]), (some 7, .mv (.t 11)), (some 12, .ext (.t 7) 0), (some 13, .ext (.t 7) 1), (some 4, .mv (.t 12)), (some 5, .mv (.t 13))]⟩] [0, 3, 4, 5])
 (.seq (.seq (.rg [⟨none, [(some 14, .mv (.t 5))]⟩] [0, 3, 4, 14])
 (.ite (.t 14)
 (.seq (.rgq [⟨none, [(some 15, .mv (.t 0)), (some 16, .nilc (.t 15)), (some 17, .fldA (.t 16) 0 0), (some 18, .ld (.t 17) 1 false), (some 19, .mv (.t 4)), (some 20, .ld (.t 3) 4 true)]⟩] [⟨none, [(some 21, .idxS (.t 18) (.t 19) 4), (none, .st (.t 21) (.t 20) 4)]⟩] [])
 .ret)
 .skip))
 (.seq (.rg [⟨none, [(some 22, .mv (.t 0)), (some 23, .nilc (.t 22)), (some 24, .fldA (.t 23) 0 0), (some 25, .ld (.t 24) 1 false), (some 26, .mv (.t 4)), (some 27, .sl 4 (.t 25) none (some (.t 26))), (none, .gh), (none, .gh), (some 28, .app 32 4 56 (.c (.s (.int .i64 0)) (.c (.s (.int .i64 0)) (.c (.s (.string ⟨#[]⟩)) (.c (.s (.slice none 0 0)) .u)))) (.c (.slice none 0 0)) (.t 27)), (some 6, .mv (.t 28))]⟩] [0, 3, 4, 6])
 (.seq (.rg [⟨none, [(some 29, .mv (.t 6)), (some 30, .ld (.t 3) 4 true), (some 31, .bldS 32 4 (.c (.s (.int .i64 0)) (.c (.s (.int .i64 0)) (.c (.s (.string ⟨#[]⟩)) (.c (.s (.slice none 0 0)) .u)))) [(.t 30)]), (some 32, .app 32 4 56 (.c (.s (.int .i64 0)) (.c (.s (.int .i64 0)) (.c (.s (.string ⟨#[]⟩)) (.c (.s (.slice none 0 0)) .u)))) (.t 29) (.t 31)), (some 6, .mv (.t 32))]⟩] [0, 4, 6])
 (.rg [⟨none, [(some 33, .mv (.t 0)), (some 34, .mv (.t 6)), (some 35, .mv (.t 0)), (some 36, .nilc (.t 35)), (some 37, .fldA (.t 36) 0 0), (some 38, .ld (.t 37) 1 false), (some 39, .mv (.t 4)), (some 40, .sl 4 (.t 38) (some (.t 39)) none), (none, .gh), (some 41, .app 32 4 56 (.c (.s (.int .i64 0)) (.c (.s (.int .i64 0)) (.c (.s (.string ⟨#[]⟩)) (.c (.s (.slice none 0 0)) .u)))) (.t 34) (.t 40)), (none, .gh), (some 42, .nilc (.t 33)), (some 43, .fldA (.t 42) 0 0), (none, .st (.t 43) (.t 41) 1)]⟩] []))))))
theorem k_ref12_Tree_put : Ok Tryz.prog 58 c_ref12_Tree_put 44 [(3, 6)] [] := Ok.mk' Tryz.func58 (by kernel_rfl) (by kernel_rfl) (by kernel_rfl)

abbrev f_ref12_set : Nat := 57
def c_ref12_set_L0 : Cd :=
 (.seq (.seq (.rg [⟨none, [(some 12, .mv (.t 9)), (some 13, .mv (.t 0)), (some 14, .len (.t 13)), (some 15, .bin .lss (.t 12) (.t 14))]⟩] [0, 1, 2, 7, 8, 9, 15])
 (.ite (.t 15)
 .skip
 (.exit 0)))
 (.seq (.block 1 (.seq (.seq (.rg [⟨none, [(some 18, .mv (.t 8)), (some 19, .un .not (.t 18)), (some 20, .mv (.t 19))]⟩, ⟨some (20, true), [(some 21, .mv (.t 0)), (some 22, .mv (.t 9)), (some 23, .idxS (.t 21) (.t 22) 2), (some 24, .fldA (.t 23) 0 0), (some 25, .ld (.t 24) 1 false), (some 26, .mv (.t 1)), (some 27, .bin .geq (.t 25) (.t 26))]⟩, ⟨none, [(some 28, .pick (.t 20) (.t 27) (.c (.bool false)))]⟩] [0, 1, 2, 7, 8, 9, 28])
 (.ite (.t 28)
 (.seq (.rg [⟨none, [(some 29, .mv (.t 7)), (some 30, .mv (.t 1)), (some 31, .mv (.t 2)), (some 32, .bld (.c (.s (.string ⟨#[]⟩)) (.c (.s (.string ⟨#[]⟩)) .u)) [(0, (.t 30)), (1, (.t 31))]), (some 33, .bldS 55 2 (.c (.s (.string ⟨#[]⟩)) (.c (.s (.string ⟨#[]⟩)) .u)) [(.t 32)]), (some 34, .app 55 2 32 (.c (.s (.string ⟨#[]⟩)) (.c (.s (.string ⟨#[]⟩)) .u)) (.t 29) (.t 33)), (some 7, .mv (.t 34))]⟩] [0, 1, 2, 7, 9])
 (.rg [⟨none, [(some 8, .mv (.c (.bool true)))]⟩] [0, 1, 2, 7, 8, 9]))
 .skip))
 (.seq (.rg [⟨none, [(some 35, .mv (.t 0)), (some 36, .mv (.t 9)), (some 37, .idxS (.t 35) (.t 36) 2), (some 38, .fldA (.t 37) 0 0), (some 39, .ld (.t 38) 1 false), (some 40, .mv (.t 1)), (some 41, .bin .neq (.t 39) (.t 40))]⟩] [0, 1, 2, 7, 8, 9, 41])
 (.ite (.t 41)
 (.rg [⟨none, [(some 42, .mv (.t 7)), (some 43, .mv (.t 0)), (some 44, .mv (.t 9)), (some 45, .idxS (.t 43) (.t 44) 2), (some 46, .ld (.t 45) 2 true), (some 47, .bldS 55 2 (.c (.s (.string ⟨#[]⟩)) (.c (.s (.string ⟨#[]⟩)) .u)) [(.t 46)]), (some 48, .app 55 2 32 (.c (.s (.string ⟨#[]⟩)) (.c (.s (.string ⟨#[]⟩)) .u)) (.t 42) (.t 47)), (some 7, .mv (.t 48))]⟩] [0, 1, 2, 7, 8, 9])
 .skip))))
 (.rg [⟨none, [(some 16, .mv (.t 9)), (some 17, .bin .add (.t 16) (.c (.int .i64 1))), (some 9, .mv (.t 17))]⟩] [0, 1, 2, 7, 8, 9])))
def c_ref12_set : Cd :=
 (.seq (.rg [⟨none, [(some 6, .mv (.c (.slice none 0 0)))]⟩] [0, 1, 2])
 (.seq (.rg [⟨none, [(some 7, .mv (.c (.slice none 0 0)))]⟩] [0, 1, 2, 7])
 (.seq (.rg [⟨none, [(none, .gh), (some 10, .mv (.t 2)), (some 11, .bin .eql (.t 10) (.c (.string ⟨#[]⟩))), (some 8, .mv (.t 11))]⟩] [0, 1, 2, 7, 8])
 (.seq (.seq (.rg [⟨none, [(some 9, .mv (.c (.int .i64 0)))]⟩] [0, 1, 2, 7, 8, 9])
 (.block 0 (.loop c_ref12_set_L0)))
 (.seq (.seq (.rg [⟨none, [(some 49, .mv (.t 8)), (some 50, .un .not (.t 49))]⟩] [1, 2, 7, 50])
 (.ite (.t 50)
 (.rg [⟨none, [(some 51, .mv (.t 7)), (some 52, .mv (.t 1)), (some 53, .mv (.t 2)), (some 54, .bld (.c (.s (.string ⟨#[]⟩)) (.c (.s (.string ⟨#[]⟩)) .u)) [(0, (.t 52)), (1, (.t 53))]), (some 55, .bldS 55 2 (.c (.s (.string ⟨#[]⟩)) (.c (.s (.string ⟨#[]⟩)) .u)) [(.t 54)]), (some 56, .app 55 2 32 (.c (.s (.string ⟨#[]⟩)) (.c (.s (.string ⟨#[]⟩)) .u)) (.t 51) (.t 55)), (some 7, .mv (.t 56))]⟩] [7])
 .skip))
 (.seq (.rg [⟨none, [(some 57, .mv (.t 7)), (none, .gh), (some 6, .mv (.t 57))]⟩] [6])
 .ret))))))
theorem k_ref12_set : Ok Tryz.prog 57 c_ref12_set 58 [] [.tmp 6] := Ok.mk' Tryz.func57 (by kernel_rfl) (by kernel_rfl) (by kernel_rfl)

abbrev f_ref12_SameNode : Nat := 42
def c_ref12_SameNode_L0 : Cd :=
 (.seq (.seq (.rg [⟨none, [(some 34, .mv (.t 5)), (some 35, .fldA (.t 2) 3 3), (some 36, .ld (.t 35) 1 false), (some 37, .len (.t 36)), (some 38, .bin .lss (.t 34) (.t 37))]⟩] [2, 3, 5, 38])
 (.ite (.t 38)
 .skip
 (.exit 0)))
 (.seq (.block 1 (.seq (.rgq [⟨none, [(some 41, .fldA (.t 2) 3 3), (some 42, .ld (.t 41) 1 false), (some 43, .mv (.t 5)), (some 44, .idxS (.t 42) (.t 43) 2), (some 45, .ld (.t 44) 2 true), (some 46, .fldA (.t 3) 3 3), (some 47, .ld (.t 46) 1 false), (some 48, .mv (.t 5)), (some 49, .idxS (.t 47) (.t 48) 2), (some 50, .ld (.t 49) 2 true)]⟩] [⟨none, [(some 51, .eqA true 55 (.t 45) (.t 50))]⟩] [2, 3, 5, 51])
 (.ite (.t 51)
 (.seq (.rg [⟨none, [(some 4, .mv (.c (.bool false)))]⟩] [4])
 .ret)
 .skip)))
 (.rg [⟨none, [(some 39, .mv (.t 5)), (some 40, .bin .add (.t 39) (.c (.int .i64 1))), (some 5, .mv (.t 40))]⟩] [2, 3, 5])))
def c_ref12_SameNode : Cd :=
 (.seq (.rg [⟨none, [(some 2, .box 32 (.t 0)), (some 3, .box 32 (.t 1)), (some 4, .mv (.c (.bool false)))]⟩] [2, 3])
 (.seq (.seq (.rg [⟨none, [(some 6, .fldA (.t 2) 0 0), (some 7, .ld (.t 6) 1 false), (some 8, .fldA (.t 3) 0 0), (some 9, .ld (.t 8) 1 false), (some 10, .bin .neq (.t 7) (.t 9)), (some 11, .mv (.t 10))]⟩, ⟨some (11, false), [(some 12, .fldA (.t 2) 1 1), (some 13, .ld (.t 12) 1 false), (some 14, .fldA (.t 3) 1 1), (some 15, .ld (.t 14) 1 false), (some 16, .bin .neq (.t 13) (.t 15))]⟩, ⟨none, [(some 17, .pick (.t 11) (.c (.bool true)) (.t 16)), (some 18, .mv (.t 17))]⟩, ⟨some (18, false), [(some 19, .fldA (.t 2) 2 2), (some 20, .ld (.t 19) 1 false), (some 21, .fldA (.t 3) 2 2), (some 22, .ld (.t 21) 1 false), (some 23, .bin .neq (.t 20) (.t 22))]⟩, ⟨none, [(some 24, .pick (.t 18) (.c (.bool true)) (.t 23)), (some 25, .mv (.t 24))]⟩, ⟨some (25, false), [(some 26, .fldA (.t 2) 3 3), (some 27, .ld (.t 26) 1 false), (some 28, .len (.t 27)), (some 29, .fldA (.t 3) 3 3), (some 30, .ld (.t 29) 1 false), (some 31, .len (.t 30)), (some 32, .bin .neq (.t 28) (.t 31))]⟩, ⟨none, [(some 33, .pick (.t 25) (.c (.bool true)) (.t 32))]⟩] [2, 3, 33])
 (.ite (.t 33)
 (.seq (.rg [⟨none, [(some 4, .mv (.c (.bool false)))]⟩] [4])
 .ret)
 .skip))
 (.seq (.seq (.rg [⟨none, [(some 5, .mv (.c (.int .i64 0)))]⟩] [2, 3, 5])
 (.block 0 (.loop c_ref12_SameNode_L0)))
 (.seq (.rg [⟨none, [(some 4, .mv (.c (.bool true)))]⟩] [4])
 .ret))))
theorem k_ref12_SameNode : Ok Tryz.prog 42 c_ref12_SameNode 52 [(6, 10)] [.tmp 4] := Ok.mk' Tryz.func42 (by kernel_rfl) (by kernel_rfl) (by kernel_rfl)

abbrev f_ref12_Same : Nat := 17
def c_ref12_Same_L0 : Cd :=
 (.seq (.seq (.rg [⟨none, [(some 11, .mv (.t 5)), (some 12, .mv (.t 0)), (some 13, .len (.t 12)), (some 14, .bin .lss (.t 11) (.t 13))]⟩] [0, 1, 5, 14])
 (.ite (.t 14)
 .skip
 (.exit 0)))
 (.seq (.block 1 (.seq (.rgq [⟨none, [(some 17, .mv (.t 0)), (some 18, .mv (.t 5)), (some 19, .idxS (.t 17) (.t 18) 4), (some 20, .ld (.t 19) 4 true), (some 21, .mv (.t 1)), (some 22, .mv (.t 5)), (some 23, .idxS (.t 21) (.t 22) 4), (some 24, .ld (.t 23) 4 true)]⟩] [⟨none, [(some 25, .call 42 [(.t 20), (.t 24)]), (some 26, .un .not (.t 25))]⟩] [0, 1, 5, 26])
 (.ite (.t 26)
 (.seq (.rg [⟨none, [(some 4, .mv (.c (.bool false)))]⟩] [4])
 .ret)
 .skip)))
 (.rg [⟨none, [(some 15, .mv (.t 5)), (some 16, .bin .add (.t 15) (.c (.int .i64 1))), (some 5, .mv (.t 16))]⟩] [0, 1, 5])))
def c_ref12_Same : Cd :=
 (.seq (.rg [⟨none, [(some 4, .mv (.c (.bool false)))]⟩] [0, 1])
 (.seq (.seq (.rg [⟨none, [(some 6, .mv (.t 0)), (some 7, .len (.t 6)), (some 8, .mv (.t 1)), (some 9, .len (.t 8)), (some 10, .bin .neq (.t 7) (.t 9))]⟩] [0, 1, 10])
 (.ite (.t 10)
 (.seq (.rg [⟨none, [(some 4, .mv (.c (.bool false)))]⟩] [4])
 .ret)
 .skip))
 (.seq (.seq (.rg [⟨none, [(some 5, .mv (.c (.int .i64 0)))]⟩] [0, 1, 5])
 (.block 0 (.loop c_ref12_Same_L0)))
 (.seq (.rg [⟨none, [(some 4, .mv (.c (.bool true)))]⟩] [4])
 .ret))))
theorem k_ref12_Same : Ok Tryz.prog 17 c_ref12_Same 27 [(6, 8)] [.tmp 4] := Ok.mk' Tryz.func17 (by kernel_rfl) (by kernel_rfl) (by kernel_rfl)

abbrev f_ref12_Plain : Nat := 43
def c_ref12_Plain_L0 : Cd :=
 (.seq (.seq (.rg [⟨none, [(some 5, .mv (.t 4)), (some 6, .mv (.t 0)), (some 7, .len (.t 6)), (some 8, .bin .lss (.t 5) (.t 7))]⟩] [0, 3, 4, 8])
 (.ite (.t 8)
 .skip
 (.exit 0)))
 (.seq (.block 1 (.seq (.rg [⟨none, [(some 11, .mv (.t 0)), (some 12, .mv (.t 4)), (some 13, .idxS (.t 11) (.t 12) 4), (some 14, .fldA (.t 13) 0 0), (some 15, .ld (.t 14) 1 false), (some 16, .bin .gtr (.t 15) (.c (.int .i64 2))), (some 17, .mv (.t 16))]⟩, ⟨some (17, false), [(some 18, .mv (.t 0)), (some 19, .mv (.t 4)), (some 20, .idxS (.t 18) (.t 19) 4), (some 21, .fldA (.t 20) 3 3), (some 22, .ld (.t 21) 1 false), (some 23, .len (.t 22)), (some 24, .bin .gtr (.t 23) (.c (.int .i64 0)))]⟩, ⟨none, [(some 25, .pick (.t 17) (.c (.bool true)) (.t 24))]⟩] [0, 3, 4, 25])
 (.ite (.t 25)
 (.rg [⟨none, [(some 26, .mv (.t 3)), (some 27, .mv (.t 0)), (some 28, .mv (.t 4)), (some 29, .idxS (.t 27) (.t 28) 4), (some 30, .ld (.t 29) 4 true), (some 31, .bldS 32 4 (.c (.s (.int .i64 0)) (.c (.s (.int .i64 0)) (.c (.s (.string ⟨#[]⟩)) (.c (.s (.slice none 0 0)) .u)))) [(.t 30)]), (some 32, .app 32 4 56 (.c (.s (.int .i64 0)) (.c (.s (.int .i64 0)) (.c (.s (.string ⟨#[]⟩)) (.c (.s (.slice none 0 0)) .u)))) (.t 26) (.t 31)), (some 3, .mv (.t 32))]⟩] [0, 3, 4])
 .skip)))
 (.rg [⟨none, [(some 9, .mv (.t 4)), (some 10, .bin .add (.t 9) (.c (.int .i64 1))), (some 4, .mv (.t 10))]⟩] [0, 3, 4])))
def c_ref12_Plain : Cd :=
 (.seq (.rg [⟨none, [(some 2, .mv (.c (.slice none 0 0)))]⟩] [0])
 (.seq (.rg [⟨none, [(some 3, .mv (.c (.slice none 0 0)))]⟩] [0, 3])
 (.seq (.seq (.rg [⟨none, [(none, .gh), (some 4, .mv (.c (.int .i64 0)))]⟩] [0, 3, 4])
 (.block 0 (.loop c_ref12_Plain_L0)))
 (.seq (.rg [⟨none, [(some 33, .mv (.t 3)), (some 34, .call 55 [(.t 33)]), (some 2, .mv (.t 34))]⟩] [2])
 .ret))))
theorem k_ref12_Plain : Ok Tryz.prog 43 c_ref12_Plain 35 [] [.tmp 2] := Ok.mk' Tryz.func43 (by kernel_rfl) (by kernel_rfl) (by kernel_rfl)

abbrev f_ref12_Tree_Nodes : Nat := 18
def c_ref12_Tree_Nodes : Cd :=
 (.seq (.rg [⟨none, [(some 2, .mv (.c (.slice none 0 0)))]⟩] [0])
 (.seq (.rg [⟨none, [(some 3, .mv (.t 0)), (some 4, .nilc (.t 3)), (some 5, .fldA (.t 4) 0 0), (some 6, .ld (.t 5) 1 false), (some 7, .call 43 [(.t 6)]), (some 2, .mv (.t 7))]⟩] [2])
 .ret))
theorem k_ref12_Tree_Nodes : Ok Tryz.prog 18 c_ref12_Tree_Nodes 8 [] [.tmp 2] := Ok.mk' Tryz.func18 (by kernel_rfl) (by kernel_rfl) (by kernel_rfl)

end Go.Proofs.YtnoeabmpdjpfaaaGreatDoor.Vc

/- The document's lists of nodes: compared. -/
set_option linter.unusedVariables false
set_option linter.unusedSimpArgs false
set_option maxRecDepth 100000
namespace Go.Proofs.YtnoeabmpdjpfaaaGreatDoor.Vc
open Go Go.Proofs

theorem SlR.spot {u : PH} {a : Option Addr} {n c z : Nat} {xs : List GV} (h : SlR u (.slice a n c) z xs) (hne : 0 < xs.length) :
    ∃ b o, a = some ⟨b, o, none⟩ ∧ n = xs.length ∧ n ≤ c ∧ ∀ {C : Ctx} {ph : List PH} {m : PH}, KN C.u0 (m :: ph) u → ∀ i x, xs[i]? = some x → Seen C ph m b (o + i * z) x := by
  rcases h.shape with ⟨h1, _⟩ | ⟨_, b, o, c', h1, h2, h3⟩
  · subst h1; simp at hne
  · simp only [Value.slice.injEq] at h1
    obtain ⟨rfl, rfl, rfl⟩ := h1
    exact ⟨b, o, rfl, rfl, h2, h3⟩
theorem seen_fst {C : Ctx} {ph : List PH} {m : PH} {b o : Nat} {x y : GV} (h : Seen C ph m b o (.c x y)) : Seen C ph m b o x := by
  obtain ⟨h1, cs, e, fz, h2, h3⟩ := h
  exact ⟨h1.1, cs, e, fz, h2, fun j v hj => h3 j v (by
    rw [GV.flat, List.getElem?_append_left (List.getElem?_eq_some_iff.1 hj).1]; exact hj)⟩
theorem seen_snd {C : Ctx} {ph : List PH} {m : PH} {b o k : Nat} {x y : GV} (h : Seen C ph m b o (.c x y)) (hk : k = o + x.sz) : Seen C ph m b k y := by
  obtain ⟨h1, cs, e, fz, h2, h3⟩ := h
  subst hk
  exact ⟨h1.2, cs, e, fz, h2, fun j v hj => by
    have := h3 (x.sz + j) v (by
      rw [GV.flat, List.getElem?_append_right (by rw [GV.flat_len x h1.1]; omega), GV.flat_len x h1.1, Nat.add_sub_cancel_left]; exact hj)
    rw [Nat.add_assoc]; exact this⟩
theorem seen_TN {C : Ctx} {ph : List PH} {m : PH} {b o : Nat} {t : TreeNode} (h : Seen C ph m b o (gTreeNode t)) : Seen C ph m b o (.s (.int .i64 t.node)) ∧ Seen C ph m b (o + 1) (.s (.int .i64 t.parent)) ∧ Seen C ph m b (o + 2) (.s (.string t.name)) ∧ Seen C ph m b (o + 3) (.s t.attrs) := by
  have h1 := seen_snd (k := o + 1) h rfl
  have h2 := seen_snd (k := o + 2) h1 rfl
  have h3 := seen_snd (k := o + 3) h2 rfl
  exact ⟨seen_fst h, seen_fst h1, seen_fst h2, seen_fst h3⟩
theorem seen_AT {C : Ctx} {ph : List PH} {m : PH} {b o : Nat} {t : Attr} (h : Seen C ph m b o (gAttr t)) : Seen C ph m b o (.s (.string t.key)) ∧ Seen C ph m b (o + 1) (.s (.string t.value)) :=
  ⟨seen_fst h, seen_fst (seen_snd (k := o + 1) h rfl)⟩
theorem TnOk_one {u : PH} {t : TreeNode} {l : List Attr} (h : SlR u t.attrs 2 (l.map gAttr)) : t.attrs.oneCell' = true := by
  rcases h.2 with ⟨e, _⟩ | ⟨ad, c, e, _⟩ <;> rw [e] <;> rfl

theorem rSameNode_spec (w : World) (t1 t2 : TreeNode) (a b : TN) (u : PH) (hu : u.le w) (h1 : t1.node = a.node ∧ t1.parent = a.parent ∧ t1.name = a.name ∧ SlR u t1.attrs 2 (a.attrs.map gAttr)) (h2 : t2.node = b.node ∧ t2.parent = b.parent ∧ t2.name = b.name ∧ SlR u t2.attrs 2 (b.attrs.map gAttr))
    (hb : a.attrs.length ≤ 140737488355328) :
    Spec Tryz.prog f_ref12_SameNode [(gTreeNode t1).val, (gTreeNode t2).val] PH.no w fun rs _ => rs = [.s (.bool (decide (a = b)))] := by
  refine spec_val k_ref12_SameNode (Qf := fun rs => rs = [.s (.bool (decide (a = b)))]) [.g (gTreeNode t1), .g (gTreeNode t2)] (by simp) (by simp [AV.ok, gTreeNode_ok t1 (TnOk_one h1.2.2.2), gTreeNode_ok t2 (TnOk_one h2.2.2.2)]) ?_
  obtain ⟨n1, p1, m1, la⟩ := a
  obtain ⟨n2, p2, m2, lb⟩ := b
  obtain ⟨n1', p1', m1', v1⟩ := t1
  obtain ⟨n2', p2', m2', v2⟩ := t2
  obtain ⟨e1, e2, e3, h1⟩ := h1
  obtain ⟨g1, g2, g3, h2⟩ := h2
  simp only at e1 e2 e3 g1 g2 g3 h1 h2 hb
  subst e1; subst e2; subst e3; subst g1; subst g2; subst g3
  obtain ⟨a1, c1, hv1⟩ := slr_len h1
  obtain ⟨a2, c2, hv2⟩ := slr_len h2
  rw [List.length_map] at hv1 hv2
  subst hv1; subst hv2
  simp (maxSteps := 2000000) only [c_ref12_SameNode, vc_skip, vc_ret, vc_seq, vc_block, vc_rg, vc_ite, thenQ_n, thenQ_r, kKeep_eq, segs_nil, segs_n, segs_g, ops_nil, ops_cons, vcOp, RO.isGh, skip_mk, skipL, ev, look, updL, put_mk, keep_mk, keepL, binV, binC, GV.getT, Value.oneCell', cond_true, cond_false, Nat.reduceEqDiff, ↓reduceIte, reduceCtorEq, List.nil_append, Nat.zero_add, Bool.true_and, Bool.not_false, true_and, initF, initP, finW_r, resL, resOne, ↓br_tt, ↓br_tf, ↓br_ft, br_t, br_f, getT_nil, fits_s, gTreeNode_fld0, gTreeNode_get0, gTreeNode_fld1, gTreeNode_get1, gTreeNode_fld2, gTreeNode_get2, gTreeNode_fld3, gTreeNode_get3]
  refine ⟨fun k1 => ⟨fun k2 => ⟨fun k3 => ⟨fun k4 => ?_, fun k4 => ?_⟩, fun k3 => ?_⟩, fun k2 => ?_⟩, fun k1 => ?_⟩
  · rw [bne_iff_ne] at k4
    rw [decide_eq_false fun e => k4 (by cases e; rfl)]
  · rw [bne_eq_false_iff_eq] at k1 k2 k4
    simp only [Bool.not_eq_false', decide_eq_true_eq] at k3
    have hll : la.length = lb.length := by omega
    subst k1; subst k2; subst k3
    refine vc_loop (ι := Nat) (fun i => ⟨[(2, .ref 2 []), (3, .ref 3 []), (5, .g (.s (.int .i64 (i))))], [(2, .box (gTreeNode ⟨n1', p1', m1', .slice a1 la.length c1⟩)), (3, .box (gTreeNode ⟨n1', p1', m1', .slice a2 lb.length c2⟩))], [], PH.no⟩) (fun i => i ≤ la.length ∧ la.take i = lb.take i) (fun i => la.length - i) 0 (by simp) (ge_of ?_ ?_ rfl rfl rfl) ?_
    · simp [frIn, look]
    · simp [pvIn, look]
    rintro i ⟨hi, hj⟩
    generalize hQ : loopQ _ _ _ _ _ = Q
    by_cases hlt : i < la.length
    · obtain ⟨b1, o1, rfl, _, _, s1⟩ := h1.spot (by simp; omega)
      obtain ⟨b2, o2, rfl, _, _, s2⟩ := h2.spot (by simp; omega)
      have hx1 : (la.map gAttr)[i]? = some (gAttr (la.getD i zAttr)) := by rw [List.getElem?_map, List.getD_eq_getElem?_getD, List.getElem?_eq_getElem hlt]; rfl
      have hx2 : (lb.map gAttr)[i]? = some (gAttr (lb.getD i zAttr)) := by rw [List.getElem?_map, List.getD_eq_getElem?_getD, List.getElem?_eq_getElem (by omega)]; rfl
      simp (maxSteps := 2000000) only [c_ref12_SameNode_L0, vc_skip, vc_exit, vc_seq, vc_block, vc_rg, vc_rgq, vc_ite, thenQ_n, thenQ_e, kKeep_eq, segs_nil, segs_n, ops_nil, ops_cons, qsegs_n, qops_cons, vcqOp, vcOp, isRd, ev, look, put_mk, keep_mk, keepL, binV, binC, GV.getT, Nat.reduceEqDiff, ↓reduceIte, List.nil_append, Bool.true_and, Bool.not_false, true_and, Int.toNat_natCast, decide_eq_true_eq, decide_eq_false_iff_not, br_t, getT_nil, fits_s, gTreeNode_fld3, gTreeNode_get3]
      refine ⟨fun _ => ⟨⟨by omega, by omega⟩, ld_of _ (s1 (kn_u hu) i _ hx1) (gAttr_fits _) ?_⟩, fun h => absurd (show (i : Int) < la.length by omega) h⟩
      simp (maxSteps := 2000000) only [qops_cons, vcqOp, vcOp, isRd, ev, look, put_mk, GV.getT, Nat.reduceEqDiff, ↓reduceIte, List.nil_append, Bool.true_and, Bool.not_false, true_and, Int.toNat_natCast, getT_nil, fits_s, gTreeNode_fld3, gTreeNode_get3]
      refine ⟨⟨by omega, by omega⟩, ld_of _ (s2 (kn_u hu) i _ hx2) (gAttr_fits _) ?_⟩
      simp (maxSteps := 2000000) only [segs_n, ops_cons, qsegs_nil, qops_nil, vcOp, ev, look, put_mk, Nat.reduceEqDiff, ↓reduceIte]
      refine eq_of (eqG_attr _ _) ?_
      simp (maxSteps := 2000000) only [Bool.not_eq_true', Bool.not_eq_false', decide_eq_false_iff_not, decide_eq_true_eq, vc_skip, vc_ret, vc_seq, vc_rg, vc_ite, thenQ_n, thenQ_r, blockQ_n, blockQ_r, kKeep_eq, segs_nil, segs_n, ops_nil, ops_cons, vcOp, ev, look, put_mk, keep_mk, keepL, binV, binC, Value.oneCell', cond_true, Nat.reduceEqDiff, ↓reduceIte, Bool.true_and, true_and, decide_eq_true_eq, decide_eq_false_iff_not, br_t, Bool.bne_true]
      refine ⟨fun hne => ?_, fun he => ?_⟩
      · subst hQ
        simp (maxSteps := 2000000) only [thenQ_r, blockQ_r, loopQ_r, look, ↓reduceIte, finW_r, resL, resOne]
        rw [decide_eq_false fun e => hne (by cases e; rfl)]
      · subst hQ; simp only [loopQ_n]; refine ⟨i + 1, ?_, ?_, ge_of ?_ ?_ rfl rfl rfl⟩
        · refine ⟨by omega, ?_⟩
          rw [List.take_add_one, List.take_add_one, hj]
          congr 1
          rw [List.getD_eq_getElem?_getD, List.getD_eq_getElem?_getD, List.getElem?_eq_getElem (by omega), List.getElem?_eq_getElem (by omega)] at he
          rw [List.getElem?_eq_getElem (by omega), List.getElem?_eq_getElem (by omega)]
          simpa using he
        · omega
        · simp only [frIn, look, Nat.reduceEqDiff, ↓reduceIte, Bool.and_true, Bool.true_and, true_and, and_true]
          rw [wrap_n (by omega)]
          try simp
        · simp [pvIn, look]
    · simp (maxSteps := 2000000) only [c_ref12_SameNode_L0, vc_skip, vc_exit, vc_seq, vc_block, vc_rg, vc_rgq, vc_ite, thenQ_n, thenQ_e, kKeep_eq, segs_nil, segs_n, ops_nil, ops_cons, qsegs_nil, qsegs_n, qops_nil, qops_cons, vcqOp, vcOp, isRd, ev, look, put_mk, keep_mk, keepL, rowE, rowD, binV, binC, GV.getT, Nat.reduceEqDiff, ↓reduceIte, List.nil_append, Bool.true_and, Bool.not_false, true_and, decide_eq_true_eq, decide_eq_false_iff_not, br_t, getT_nil, fits_s, gTreeNode_fld3, gTreeNode_get3]
      refine ⟨fun h => absurd (show i < la.length by omega) hlt, fun _ => ?_⟩
      subst hQ
      simp (maxSteps := 2000000) only [vc_ret, vc_seq, vc_rg, thenQ_n, blockQ_e, kKeep_eq, loopQ_e, segs_nil, segs_n, ops_nil, ops_cons, vcOp, ev, look, put_mk, keep_mk, keepL, Value.oneCell', cond_true, ↓reduceIte, finW_r, resL, resOne]
      have e1 : la.take i = la := List.take_of_length_le (by omega)
      have e2 : lb.take i = lb := List.take_of_length_le (by omega)
      rw [e1, e2] at hj
      rw [decide_eq_true (by rw [hj])]
  · rw [decide_eq_false fun e => by cases e; simp at k3]
  · rw [bne_iff_ne] at k2
    rw [decide_eq_false fun e => k2 (by cases e; rfl)]
  · rw [bne_iff_ne] at k1
    rw [decide_eq_false fun e => k1 (by cases e; rfl)]

theorem rSame_spec (w : World) (va vb : Value) (ts1 ts2 : List TreeNode) (l1 l2 : List TN) (u : PH) (hu : u.le w) (ha : SlR u va 4 (ts1.map gTreeNode)) (hb : SlR u vb 4 (ts2.map gTreeNode)) (h1 : TsOk u ts1 l1) (h2 : TsOk u ts2 l2)
    (hn : ts1.length ≤ 140737488355328) (hs1 : ∀ t ∈ l1, t.attrs.length ≤ 140737488355328) :
    Spec Tryz.prog f_ref12_Same [va, vb] PH.no w fun rs _ => rs = [.s (.bool (decide (l1 = l2)))] := by
  refine spec_val k_ref12_Same (Qf := fun rs => rs = [.s (.bool (decide (l1 = l2)))]) [.ro va 4 (gTreeNode zTreeNode) (ts1.map gTreeNode), .ro vb 4 (gTreeNode zTreeNode) (ts2.map gTreeNode)] (by simp) (by simpa [AV.ok, u0_no] using ⟨ha.up hu.sub, hb.up hu.sub⟩) ?_
  have hl1 := h1.len
  have hl2 := h2.len
  simp (maxSteps := 2000000) only [c_ref12_Same, vc_skip, vc_ret, vc_seq, vc_block, vc_rg, vc_ite, thenQ_n, thenQ_r, kKeep_eq, segs_nil, segs_n, ops_nil, ops_cons, vcOp, ev, look, put_mk, keep_mk, keepL, binV, binC, Value.oneCell', cond_true, Nat.reduceEqDiff, ↓reduceIte, reduceCtorEq, Nat.zero_add, Bool.true_and, true_and, initF, initP, finW_r, resL, resOne, br_t, List.length_map, List.length_map]
  refine ⟨fun hne => ?_, fun heq => ?_⟩
  · rw [bne_iff_ne] at hne
    rw [decide_eq_false fun e => hne (by rw [hl1, hl2, e])]
  rw [bne_eq_false_iff_eq] at heq
  refine vc_loop (ι := Nat) (fun i => ⟨[(0, .row 0 0 (ts1.length)), (1, .row 1 0 (ts2.length)), (5, .g (.s (.int .i64 (i))))], [(0, .ro 4 (gTreeNode zTreeNode) (ts1.map gTreeNode)), (1, .ro 4 (gTreeNode zTreeNode) (ts2.map gTreeNode))], [], PH.no⟩) (fun i => i ≤ ts1.length ∧ l1.take i = l2.take i) (fun i => ts1.length - i) 0 (by simp) (ge_of ?_ ?_ rfl rfl rfl) ?_
  · simp [frIn, look]
  · simp [pvIn, look]
  rintro i ⟨hi, hj⟩
  generalize hQ : loopQ _ _ _ _ _ = Q
  simp (maxSteps := 2000000) only [c_ref12_Same_L0, vc_skip, vc_exit, vc_seq, vc_block, vc_rg, vc_rgq, vc_ite, thenQ_n, thenQ_e, kKeep_eq, segs_nil, segs_n, ops_nil, ops_cons, qsegs_nil, qsegs_n, qops_nil, qops_cons, vcqOp, vcOp, isRd, ev, look, put_mk, keep_mk, keepL, rowE, rowD, binV, binC, Nat.reduceEqDiff, ↓reduceIte, reduceCtorEq, Nat.zero_add, Bool.true_and, true_and, Int.toNat_natCast, decide_eq_true_eq, decide_eq_false_iff_not, br_t, getT_nil, gTreeNode_fits, getD_gTreeNode]
  refine ⟨fun hlt => ⟨⟨by omega, by omega⟩, ⟨by omega, by omega⟩, ?_⟩, fun hlt => ?_⟩
  · have g1 := h1.at i (by omega)
    have g2 := h2.at i (by omega)
    have hm1 : l1.getD i zTN ∈ l1 := by rw [List.getD_eq_getElem?_getD, List.getElem?_eq_getElem (by omega)]; exact List.getElem_mem _
    refine call_is _ [.s (.bool (decide (l1.getD i zTN = l2.getD i zTN)))] rfl rfl (fun w' vs hv hw => ?_) ?_
    · obtain ⟨vs, rfl, _, hv⟩ := argsV_g hv
      obtain ⟨vs, rfl, _, hv⟩ := argsV_g hv
      obtain rfl := argsV_nil hv
      intro _
      exact rSameNode_spec w' _ _ _ _ u (fun b o h => hw b o (by rw [u0_no]; exact hu b o h)) g1 g2 (hs1 _ hm1)
    simp (maxSteps := 2000000) only [retS, Bool.not_eq_true', Bool.not_eq_false', decide_eq_false_iff_not, decide_eq_true_eq, vc_skip, vc_ret, vc_seq, vc_rg, vc_ite, thenQ_n, thenQ_r, blockQ_n, blockQ_r, kKeep_eq, segs_nil, segs_n, ops_nil, ops_cons, vcOp, ev, look, put_mk, keep_mk, keepL, binV, binC, unV, Value.oneCell', cond_true, Nat.reduceEqDiff, ↓reduceIte, reduceCtorEq, Bool.true_and, true_and, decide_eq_true_eq, decide_eq_false_iff_not, br_t]
    refine ⟨fun hne => ?_, fun he => ?_⟩
    · subst hQ
      simp (maxSteps := 2000000) only [thenQ_r, blockQ_r, loopQ_r, look, ↓reduceIte, finW_r, resL, resOne]
      rw [decide_eq_false fun e => hne (by rw [e])]
    · subst hQ; simp only [loopQ_n]; refine ⟨i + 1, ?_, ?_, ge_of ?_ ?_ rfl rfl rfl⟩
      · refine ⟨by omega, ?_⟩
        rw [List.take_add_one, List.take_add_one, hj]
        congr 1
        rw [List.getD_eq_getElem?_getD, List.getD_eq_getElem?_getD, List.getElem?_eq_getElem (by omega), List.getElem?_eq_getElem (by omega)] at he
        rw [List.getElem?_eq_getElem (by omega), List.getElem?_eq_getElem (by omega)]
        simpa using he
      · omega
      · simp only [frIn, look, Nat.reduceEqDiff, ↓reduceIte, reduceCtorEq, Bool.and_true, Bool.true_and, true_and, and_true]
        rw [wrap_n (by omega)]
        try simp
      · simp [pvIn, look]
  · subst hQ
    simp (maxSteps := 2000000) only [vc_ret, vc_seq, vc_rg, thenQ_n, blockQ_e, kKeep_eq, loopQ_e, segs_nil, segs_n, ops_nil, ops_cons, vcOp, ev, look, put_mk, keep_mk, keepL, Value.oneCell', cond_true, ↓reduceIte, finW_r, resL, resOne]
    have e1 : l1.take i = l1 := List.take_of_length_le (by omega)
    have e2 : l2.take i = l2 := List.take_of_length_le (by omega)
    rw [e1, e2] at hj
    rw [decide_eq_true hj]
end Go.Proofs.YtnoeabmpdjpfaaaGreatDoor.Vc

/- The document's lists of nodes: copied, looked at. -/
set_option linter.unusedVariables false
set_option linter.unusedSimpArgs false
set_option maxRecDepth 100000
namespace Go.Proofs.YtnoeabmpdjpfaaaGreatDoor.Vc
open Go Go.Proofs

theorem clone_spec (w : World) (va : Value) (ts : List TreeNode) (l : List TN) (u : PH) (hu : u.le w) (ha : SlR u va 4 (ts.map gTreeNode)) (hts : TsOk u ts l) (hn : l.length ≤ 1099511627776) (hs : ∀ t ∈ l, t.attrs.length ≤ 1099511627776) :
    Spec Tryz.prog f_ref12_clone [va] PH.no w fun rs m' => ∃ v mn ma ts', rs = [.s v] ∧ m' = uni mn ma ∧ dis mn ma ∧ SlO mn v 32 4 (ts'.map gTreeNode) ∧ TsOk ma ts' l := by
  refine spec_of k_ref12_clone [.ro va 4 (gTreeNode zTreeNode) (ts.map gTreeNode)] (by simp) (by simpa [AV.ok, u0_no] using ha.up hu.sub) ?_
  have hlts := hts.len
  simp (maxSteps := 2000000) only [c_ref12_clone, vc_seq, vc_rg, thenQ_n, kKeep_eq, segs_nil, segs_n, ops_nil, ops_cons, vcOp, ev, look, put_mk, keep_mk, keepL, Value.oneCell', cond_true, ↓reduceIte, reduceCtorEq, initF, initP, List.length_map, List.length_map]
  refine gh_nil 3 3 32 4 (gTreeNode zTreeNode) rfl rfl ?_
  simp (maxSteps := 2000000) only [vc_block, thenQ_n, kKeep_eq, segs_nil, ops_nil, ops_cons, vcOp, ev, look, put_mk, keep_mk, keepL, Value.oneCell', cond_true, Nat.reduceEqDiff, ↓reduceIte, reduceCtorEq]
  refine vc_loop (ι := Nat × List TreeNode × PH) (fun q => ⟨[(0, .row 0 0 (ts.length)), (3, .row 3 0 (q.2.1.length)), (4, .g (.s (.int .i64 (q.1))))], [(0, .ro 4 (gTreeNode zTreeNode) (ts.map gTreeNode)), (3, .row 32 4 (gTreeNode zTreeNode) (q.2.1.map gTreeNode))], [], q.2.2⟩)
    (fun q => q.1 ≤ ts.length ∧ q.2.1.length = q.1 ∧ TsOk q.2.2 q.2.1 (l.take q.1)) (fun q => ts.length - q.1) (0, [], PH.no) ⟨by simp, rfl, trivial⟩ (ge_of ?_ ?_ rfl rfl rfl) ?_
  · simp [frIn, look]
  · simp [pvIn, look]
  rintro ⟨i, os, mA⟩ ⟨hi, hol, hos⟩
  simp only at hi hol hos
  generalize hQ : loopQ _ _ _ _ _ = Q
  simp (maxSteps := 2000000) only [c_ref12_clone_L0, vc_skip, vc_exit, vc_seq, vc_block, vc_rg, vc_ite, thenQ_n, thenQ_e, kKeep_eq, segs_nil, segs_n, ops_nil, ops_cons, vcOp, ev, look, updL, put_mk, put_mk0, keep_mk, keepL, rowE, rowD, binV, binC, GV.getT, Nat.reduceEqDiff, ↓reduceIte, reduceCtorEq, List.nil_append, Nat.zero_add, Bool.and_true, Bool.true_and, Bool.not_false, true_and, and_true, Int.toNat_natCast, decide_eq_true_eq, decide_eq_false_iff_not, br_t, getT_nil, setT_nil, fits_s, gTreeNode_sz, gTreeNode_fits, gTreeNode_same, gTreeNode_fld3, gTreeNode_get3, gTreeNode_zero, getD_gTreeNode]
  refine ⟨fun hlt => ⟨⟨by omega, by omega⟩, ?_⟩, fun hge => ?_⟩
  · obtain ⟨t, ht⟩ : ∃ t, ts.getD i zTreeNode = t := ⟨_, rfl⟩
    obtain ⟨r, hr⟩ : ∃ r, l.getD i zTN = r := ⟨_, rfl⟩
    have hrm : r ∈ l := by rw [← hr, List.getD_eq_getElem?_getD, List.getElem?_eq_getElem (by omega)]; exact List.getElem_mem _
    obtain ⟨e1, e2, e3, hsl⟩ := hts.at i (by omega)
    rw [ht, hr] at e1 e2 e3 hsl
    have htake : l.take (i + 1) = l.take i ++ [r] := by
      rw [List.take_add_one, ← hr, List.getD_eq_getElem?_getD, List.getElem?_eq_getElem (by omega)]; rfl
    have hal := hs r hrm
    rw [ht]
    refine gh_rk 17 17 (gAttr zAttr) rfl rfl hsl (kn_u hu) ?_
    simp (maxSteps := 2000000) only [List.length_map, ops_cons, vcOp, ev, look, rowE, Value.oneCell', cond_true, ↓reduceIte, Bool.true_and, true_and, List.drop_zero, List.length_map, List.length_map]
    rw [List.take_of_length_le (by simp)]
    refine app_nil rfl rfl (by omega) ?_
    simp (maxSteps := 2000000) only [ops_cons, vcOp, updL, Nat.reduceEqDiff, ↓reduceIte, reduceCtorEq]
    refine gh_pub 18 18 r.attrs.length rfl rfl (by simp) fun v u2 hv hso hd2 => ?_
    simp (maxSteps := 2000000) only [dropK, vc_rg, thenQ_n, blockQ_n, kKeep_eq, segs_nil, segs_n, ops_nil, ops_cons, vcOp, ev, evL, gvL, look, updL, put_mk, put_mk0, keep_mk, keepL, rowE, binV, binC, GV.getT, GV.sz, GV.same, Value.oneCell', cond_true, cond_false, Nat.reduceEqDiff, Nat.reduceBEq, ↓reduceIte, reduceCtorEq, List.nil_append, Nat.zero_add, Bool.and_true, Bool.true_and, BEq.rfl, true_and, and_true, Option.map_some, szAll, List.length_cons, List.length_nil, kill, SV.mentions, ne_eq, not_false_eq_true, List.drop_zero, List.take_succ_cons, List.take_zero, getT_nil, List.length_map, gTreeNode_sz, gTreeNode_fits, gTreeNode_fld3, gTreeNode_get3, gTreeNode_set3, List.length_map]
    refine ⟨by omega, ?_⟩
    subst hQ; simp only [loopQ_n]; refine ⟨(i + 1, os ++ [⟨t.node, t.parent, t.name, v⟩], uni u2 mA), ?_, ?_, ge_of ?_ ?_ rfl rfl rfl⟩
    · refine ⟨by simp only; omega, by simp only [List.length_append, List.length_cons, List.length_nil]; omega, ?_⟩
      simp only
      rw [htake]
      exact TsOk.snoc (t := ⟨t.node, t.parent, t.name, v⟩) ⟨e1, e2, e3, hso.toR.up (sub_uni_l _ _)⟩ (hos.up (sub_uni_r hd2))
    · simp only; omega
    · simp only [frIn, look, Nat.reduceEqDiff, ↓reduceIte, reduceCtorEq, Nat.zero_add, Bool.and_true, Bool.true_and, true_and, and_true, List.length_cons, List.length_nil, List.length_append, List.length_cons, List.length_nil]
      rw [wrap_n (by omega)]
      try simp
    · simp only [pvIn, look, Nat.reduceEqDiff, ↓reduceIte, reduceCtorEq, Bool.and_true, and_true, List.map_cons, List.map_nil, List.map_append, List.map_cons, List.map_nil]
      try simp
      try rfl
  · subst hQ
    simp (maxSteps := 2000000) only [vc_seq, vc_rg, thenQ_n, blockQ_e, loopQ_e, segs_n, ops_cons, vcOp, ev, look, put_mk, ↓reduceIte, reduceCtorEq]
    refine gh_pub 24 3 os.length rfl rfl (by simp) fun v u2 hv hso hd2 => ?_
    simp (maxSteps := 2000000) only [vc_ret, thenQ_n, kKeep_eq, finQ_r, segs_nil, ops_nil, ops_cons, vcOp, ev, look, put_mk, keep_mk, keepL, cond_true, cond_false, Nat.reduceBEq, ↓reduceIte, BEq.rfl, kill, SV.mentions]
    have hi' : i = l.length := by omega
    rw [hi', List.take_length] at hos
    exact fin_m (rs := [.s v]) _ rfl (fun _ _ h => h) ⟨v, u2, mA, os, rfl, rfl, hd2, hso, hos⟩

/-! ### Attributes -/
end Go.Proofs.YtnoeabmpdjpfaaaGreatDoor.Vc

/- The document's tree: where it lies; a node found in it. -/
set_option linter.unusedVariables false
set_option linter.unusedSimpArgs false
set_option maxRecDepth 100000
namespace Go.Proofs.YtnoeabmpdjpfaaaGreatDoor.Vc
open Go Go.Proofs

/-- What it was ahead: rows in memory of their own, their attributes in A. -/
def Olds (A : PH) : PH → List Value → List (List TN) → Prop
  | m, [], [] => m = PH.no
  | m, v :: vs, l :: ls => v.oneCell' = true ∧ ∃ mn mr ts, m = uni mn mr ∧ dis mn mr ∧ SlO mn v 32 4 (ts.map gTreeNode) ∧ TsOk A ts l ∧ l ≠ [] ∧ Olds A mr vs ls
  | _, _, _ => False
theorem Olds.up {A B : PH} (hs : PH.sub A B) : ∀ {m : PH} {vs : List Value} {ls : List (List TN)}, Olds A m vs ls → Olds B m vs ls
  | _, [], [], h => h
  | _, _ :: _, _ :: _, ⟨h0, mn, mr, ts, h1, h2, h3, h4, h5, h6⟩ => ⟨h0, mn, mr, ts, h1, h2, h3, h4.up hs, h5, h6.up hs⟩
  | _, [], _ :: _, h => h.elim
  | _, _ :: _, [], h => h.elim
theorem Olds.len {A : PH} : ∀ {m : PH} {vs : List Value} {ls : List (List TN)}, Olds A m vs ls → vs.length = ls.length
  | _, [], [], _ => rfl
  | _, _ :: _, _ :: _, ⟨_, _, _, _, _, _, _, _, _, h6⟩ => by simp [h6.len]
  | _, [], _ :: _, h => h.elim
  | _, _ :: _, [], h => h.elim
theorem Olds.snoc {A : PH} {v : Value} {l : List TN} {mv : PH} {tv : List TreeNode} (hv1 : v.oneCell' = true) (hv : SlO mv v 32 4 (tv.map gTreeNode)) (htv : TsOk A tv l) (hl : l ≠ []) : ∀ {m : PH} {vs : List Value} {ls : List (List TN)}, Olds A m vs ls → dis mv m → Olds A (uni m mv) (vs ++ [v]) (ls ++ [l])
  | _, [], [], h, hd => by
    cases h
    exact ⟨hv1, mv, PH.no, tv, by rw [uni_no, uni_no_r], dis_no_r _, hv, htv, hl, rfl⟩
  | _, x :: vs, y :: ls, ⟨h0, mn, mr, ts, h1, h2, h3, h4, h5, h6⟩, hd => by
    subst h1
    obtain ⟨d1, d2⟩ := dis_of_uni_r hd
    exact ⟨h0, mn, uni mr mv, ts, uni_assoc _ _ _, dis_uni_r h2 (dis_comm d1), h3, h4, h5, Olds.snoc hv1 hv htv hl h6 d2⟩
  | _, [], _ :: _, h, _ => h.elim
  | _, _ :: _, [], h, _ => h.elim

/-- The tree: its two cells, its rows, what it was ahead; the attributes lie in A. -/
structure RMp (A : PH) (b : Nat) (l : List TN) (ls : List (List TN)) (nv wv : Value) (e : TypeId) (mn mw mo : PH) (ts : List TreeNode) (vs : List Value) : Prop where
  d1 : dis (one b (.cells #[nv, wv] e (0, 0))) (uni mn (uni mw mo))
  d2 : dis mn (uni mw mo)
  d3 : dis mw mo
  rows : SlO mn nv 32 4 (ts.map gTreeNode)
  told : TsOk A ts l
  ne : l ≠ []
  was : SlO mw wv 28 1 (vs.map GV.s)
  olds : Olds A mo vs ls
def RM (A m : PH) (b : Nat) (l : List TN) (ls : List (List TN)) : Prop := ∃ nv wv e mn mw mo ts vs, m = uni (one b (.cells #[nv, wv] e (0, 0))) (uni mn (uni mw mo)) ∧ RMp A b l ls nv wv e mn mw mo ts vs
/-- The tree, its attributes with it. -/
def RC (m : PH) (b : Nat) (l : List TN) (ls : List (List TN)) : Prop := ∃ m1 A, m = uni m1 A ∧ dis m1 A ∧ RM A m1 b l ls
theorem RM.up {A B m : PH} {b : Nat} {l : List TN} {ls : List (List TN)} (h : RM A m b l ls) (hs : PH.sub A B) : RM B m b l ls := by
  obtain ⟨nv, wv, e, mn, mw, mo, ts, vs, h1, h2⟩ := h
  exact ⟨nv, wv, e, mn, mw, mo, ts, vs, h1, ⟨h2.d1, h2.d2, h2.d3, h2.rows, h2.told.up hs, h2.ne, h2.was, h2.olds.up hs⟩⟩

/-- The first place with a number at least n. -/
def findL : List TN → Int → Nat
  | [], _ => 0
  | t :: l, n => if t.node < n then findL l n + 1 else 0
def isL (l : List TN) (n : Int) : Bool := match l[findL l n]? with
  | Option.some t => t.node == n
  | Option.none => false
theorem findL_le : ∀ (l : List TN) (n : Int), findL l n ≤ l.length
  | [], _ => Nat.le_refl _
  | t :: l, n => by
    rw [findL]
    split
    · have := findL_le l n; simp; omega
    · simp
theorem findL_lt : ∀ (l : List TN) (n : Int) (i : Nat), i < findL l n → (l.getD i zTN).node < n
  | [], _, i, h => by simp [findL] at h
  | t :: l, n, i, h => by
    rw [findL] at h
    split at h
    · rename_i ht
      cases i with
      | zero => simpa using ht
      | succ i => simpa using findL_lt l n i (by omega)
    · omega
theorem findL_at : ∀ (l : List TN) (n : Int), findL l n < l.length → ¬ (l.getD (findL l n) zTN).node < n
  | [], _, h => by simp [findL] at h
  | t :: l, n, h => by
    rw [findL] at h ⊢
    split at h
    · rename_i ht
      rw [if_pos ht]
      simpa using findL_at l n (by simpa using h)
    · rename_i ht
      rw [if_neg ht]; simpa using ht
theorem findL_stop {l : List TN} {n : Int} {i : Nat} (h1 : ∀ j, j < i → (l.getD j zTN).node < n) (h2 : i ≤ l.length) (h3 : i < l.length → ¬ (l.getD i zTN).node < n) : i = findL l n := by
  have ha := findL_le l n
  rcases Nat.lt_trichotomy i (findL l n) with h | h | h
  · exact absurd (findL_lt l n i h) (h3 (by omega))
  · exact h
  · exact absurd (h1 _ h) (findL_at l n (by omega))

section
variable {w : World}
/-- What the tree's first cell holds, and its rows. -/
theorem RM.look {A m : PH} {b : Nat} {l : List TN} {ls : List (List TN)} (h : RM A m b l ls) : ∃ (b2 o2 c : Nat) (ts : List TreeNode), ts.length = l.length ∧ 0 < l.length ∧ TsOk A ts l ∧ SlR m (.slice (Option.some ⟨b2, o2, none⟩) l.length c) 4 (ts.map gTreeNode) ∧
    (∀ {C : Ctx} {ph : List PH} {m' : PH}, KN C.u0 (m' :: ph) m → Seen C ph m' b 0 (.s (.slice (Option.some ⟨b2, o2, none⟩) l.length c))) ∧
    ∀ {C : Ctx} {ph : List PH} {m' : PH}, KN C.u0 (m' :: ph) m → ∀ i, i < l.length → Seen C ph m' b2 (o2 + i * 4) (gTreeNode (ts.getD i zTreeNode)) := by
  obtain ⟨nv, wv, e, mn, mw, mo, ts, vs, rfl, p⟩ := h
  have hl := p.told.len
  have h0 : 0 < l.length := List.length_pos_iff.2 p.ne
  obtain ⟨a, c, hv⟩ := slr_len p.rows.toR
  rw [List.length_map, hl] at hv
  subst hv
  obtain ⟨b2, o2, rfl, _, _, hs⟩ := p.rows.toR.spot (by simp; omega)
  have sub1 : PH.sub mn (uni (one b (.cells #[.slice (Option.some ⟨b2, o2, none⟩) l.length c, wv] e (0, 0))) (uni mn (uni mw mo))) := PH.sub_trans (sub_uni_l _ _) (sub_uni_r p.d1)
  refine ⟨b2, o2, c, ts, hl, h0, p.told, p.rows.toR.up sub1, fun hk => seen_cell hk (sub_uni_l _ _ _ _ (one_self _ _)) rfl rfl, fun hk i hi => ?_⟩
  refine hs (fun bb o hb => hk bb o (sub1 bb o hb)) i _ ?_
  rw [List.getElem?_map, List.getD_eq_getElem?_getD, List.getElem?_eq_getElem (by omega)]; rfl

theorem find_spec (w : World) (A m : PH) (hm : m.le w) (b : Nat) (l : List TN) (ls : List (List TN)) (h : RM A m b l ls) (n : Int) (hl : l.length ≤ 140737488355328) :
    Spec Tryz.prog f_ref12_Tree_find [ptr b, .int .i64 n] PH.no w fun rs _ => rs = [.s (.int .i64 (findL l n)), .s (.bool (isL l n))] := by
  refine spec_val k_ref12_Tree_find (Qf := fun rs => rs = [.s (.int .i64 (findL l n)), .s (.bool (isL l n))]) [.g (.s (ptr b)), .g (.s (.int .i64 n))] (by simp) (by simp [AV.ok, GV.ok, Value.oneCell', ptr]) ?_
  obtain ⟨b2, o2, c, ts, hlts, h0, hts, _, hs0, hsi⟩ := h.look
  have hk : ∀ {l : List PH}, KN (⟨Tryz.prog, 48, w, PH.no⟩ : Ctx).u0 l m := kn_u hm
  have hnode : ∀ i, i < l.length → (ts.getD i zTreeNode).node = (l.getD i zTN).node := fun i hi => (hts.at i (by omega)).1
  simp (maxSteps := 2000000) only [c_ref12_Tree_find, vc_seq, vc_block, vc_rg, thenQ_n, kKeep_eq, segs_nil, segs_n, ops_nil, ops_cons, vcOp, ev, look, put_mk, keep_mk, keepL, Value.oneCell', cond_true, Nat.reduceEqDiff, ↓reduceIte, reduceCtorEq, Nat.zero_add, initF, initP, ptr]
  refine vc_loop (ι := Nat) (fun i => ⟨[(0, .g (.s (.pointer (Option.some ⟨b, 0, none⟩)))), (1, .g (.s (.int .i64 (n)))), (6, .g (.s (.int .i64 (i))))], [], [], PH.no⟩) (fun i => i ≤ l.length ∧ ∀ j, j < i → (l.getD j zTN).node < n) (fun i => l.length - i) 0 (by simp) (ge_of ?_ ?_ rfl rfl rfl) ?_
  · simp [frIn, look, ptr]
  · simp [pvIn, look]
  rintro i ⟨hi, hj⟩
  generalize hQ : loopQ _ _ _ _ _ = Q
  simp (maxSteps := 2000000) only [c_ref12_Tree_find_L0, vc_seq, vc_rg, segs_n, ops_cons, vcOp, ev, look, put_mk, Nat.reduceEqDiff, ↓reduceIte, reduceCtorEq, Nat.add_zero]
  refine ld_of _ (hs0 hk) rfl ?_
  simp (maxSteps := 2000000) only [vc_exit, vc_ite, thenQ_n, thenQ_e, kKeep_eq, segs_nil, segs_n, segs_g, ops_nil, ops_cons, vcOp, RO.isGh, skip_mk, skipL, ev, look, put_mk, keep_mk, keepL, binV, binC, Value.oneCell', cond_true, cond_false, Nat.reduceEqDiff, ↓reduceIte, reduceCtorEq, Nat.add_zero, Bool.true_and, Bool.not_true, true_and, decide_eq_true_eq, decide_eq_false_iff_not, ↓br_ft, br_t]
  have fin : ∀ x : SV, i = findL l n → Q (.exit 0) ⟨[(0, .g (.s (.pointer (Option.some ⟨b, 0, none⟩)))), (1, .g (.s (.int .i64 (n)))), (6, .g (.s (.int .i64 (i)))), (25, x)], [], [], PH.no⟩ := by
    intro x he
    subst hQ
    simp (maxSteps := 2000000) only [vc_seq, vc_rgq, thenQ_n, blockQ_e, loopQ_e, qsegs_n, qops_cons, vcqOp, vcOp, isRd, ev, look, put_mk, Nat.reduceEqDiff, ↓reduceIte, reduceCtorEq, Nat.add_zero, Bool.true_and, true_and]
    refine ld_of _ (hs0 hk) rfl ?_
    simp (maxSteps := 2000000) only [vc_ret, thenQ_n, kKeep_eq, segs_nil, segs_n, ops_nil, ops_cons, qsegs_nil, qsegs_n, qsegs_g, qops_nil, qops_cons, vcqOp, vcOp, isRd, RO.isGh, skip_mk, skipL, ev, look, put_mk, keep_mk, keepL, binV, binC, Value.oneCell', cond_true, cond_false, Nat.reduceEqDiff, ↓reduceIte, reduceCtorEq, Nat.add_zero, Bool.true_and, Bool.not_true, true_and, finW_r, resL, resOne, decide_eq_true_eq, decide_eq_false_iff_not, ↓br_ft, br_t]
    by_cases hlt : i < l.length
    · refine ⟨fun _ => ?_, fun h => absurd (show (i : Int) < l.length by omega) h⟩
      refine ld_of _ (hs0 hk) rfl ?_
      simp (maxSteps := 2000000) only [qops_cons, vcqOp, vcOp, isRd, ev, look, put_mk, Nat.reduceEqDiff, ↓reduceIte, reduceCtorEq, Nat.add_zero, Bool.true_and, true_and, Int.toNat_natCast]
      refine ⟨⟨by omega, by omega⟩, ld_of _ (seen_TN (hsi hk i hlt)).1 rfl ?_⟩
      simp (maxSteps := 2000000) only [vc_ret, thenQ_n, kKeep_eq, segs_nil, segs_n, ops_nil, ops_cons, qsegs_nil, qsegs_n, qops_nil, qops_cons, vcqOp, vcOp, isRd, ev, look, put_mk, keep_mk, keepL, binV, binC, Value.oneCell', cond_true, Nat.reduceEqDiff, ↓reduceIte, reduceCtorEq, Bool.true_and, true_and, finW_r, resL, resOne, ↓br_tt]
      rw [hnode i hlt, ← he, isL, ← he]
      rw [List.getD_eq_getElem?_getD, List.getElem?_eq_getElem hlt]; rfl
    · refine ⟨fun h => absurd (show i < l.length by omega) hlt, fun _ => ?_⟩
      rw [← he, isL, ← he]
      rw [List.getElem?_eq_none (by omega)]
  refine ⟨fun hlt => ?_, fun hge => ?_⟩
  · have hlt : i < l.length := by omega
    refine ld_of _ (hs0 hk) rfl ?_
    simp (maxSteps := 2000000) only [ops_cons, vcOp, ev, look, put_mk, Nat.reduceEqDiff, ↓reduceIte, reduceCtorEq, Nat.add_zero, Int.toNat_natCast]
    refine ⟨⟨by omega, by omega⟩, ld_of _ (seen_TN (hsi hk i hlt)).1 rfl ?_⟩
    simp (maxSteps := 2000000) only [vc_skip, vc_exit, vc_block, vc_rg, vc_ite, thenQ_n, thenQ_e, blockQ_n, kKeep_eq, segs_nil, segs_n, ops_nil, ops_cons, vcOp, ev, look, put_mk, keep_mk, keepL, binV, binC, Value.oneCell', cond_true, Nat.reduceEqDiff, ↓reduceIte, reduceCtorEq, Bool.true_and, true_and, decide_eq_true_eq, decide_eq_false_iff_not, ↓br_tt, br_t]
    rw [hnode i hlt]
    refine ⟨fun h1 => ?_, fun h1 => ?_⟩
    · subst hQ; simp only [loopQ_n]; refine ⟨i + 1, ?_, ?_, ge_of ?_ ?_ rfl rfl rfl⟩
      · refine ⟨by omega, fun j hj' => ?_⟩
        rcases Nat.lt_or_ge j i with h | h
        · exact hj j h
        · rw [show j = i by omega]; exact h1
      · omega
      · simp only [frIn, look, Nat.reduceEqDiff, ↓reduceIte, reduceCtorEq, Bool.and_true, Bool.true_and, true_and, and_true]
        rw [wrap_n (by omega)]
        try simp
      · simp [pvIn, look]
    · exact fin _ (findL_stop hj hi fun _ => h1)
  · exact fin _ (findL_stop hj hi fun h => absurd h (by omega))
end
end Go.Proofs.YtnoeabmpdjpfaaaGreatDoor.Vc

/- The document's tree: begun; a node put into it. -/
set_option linter.unusedVariables false
set_option linter.unusedSimpArgs false
set_option maxRecDepth 100000
namespace Go.Proofs.YtnoeabmpdjpfaaaGreatDoor.Vc
open Go Go.Proofs

theorem SlO.stored {u : PH} {b o n c : Nat} {e : TypeId} {z : Nat} {xs : List GV} (h : SlO u (.slice (some ⟨b, o, none⟩) n c) e z xs) {i : Nat} (hi : i < xs.length) {y : GV} (hy : y.ok) (hz : y.sz = z) :
    ∃ cs, u b = some (.cells cs e (0, 0)) ∧ o + i * z + z ≤ cs.size ∧ SlO (u.upd b (.cells (writeAt cs (o + i * z) y.flat) e (0, 0))) (.slice (some ⟨b, o, none⟩) n c) e z (xs.set i y) := by
  obtain ⟨hels, ⟨h1, rfl⟩ | ⟨a, c', h1, h2, h3⟩⟩ := h
  · simp at hi
  · simp only [Value.slice.injEq, Option.some.injEq] at h1
    obtain ⟨rfl, rfl, rfl⟩ := h1
    obtain ⟨cs, g1, g2, g3, g4⟩ := h3 (by omega)
    simp only at g2 g3 g4
    have hfl : y.flat.length = z := by rw [GV.flat_len y hy, hz]
    have hsz : o + i * z + z ≤ cs.size := by
      have h5 : (i + 1) * z ≤ c * z := Nat.mul_le_mul_right z (by omega)
      rw [Nat.succ_mul] at h5
      omega
    refine ⟨cs, g3, hsz, hels.set hy hz, .inr ⟨⟨b, o, none⟩, c, by rw [List.length_set], by rw [List.length_set]; exact h2, fun hc => ⟨writeAt cs (o + i * z) y.flat, rfl, by rw [writeAt_size]; exact g2, upd_self _ _ _, fun j v hj => ?_⟩⟩⟩
    have hx : xs[i]? = some xs[i] := List.getElem?_eq_getElem hi
    have := flats_set hels hx hz hy j v hj
    rw [writeAt_get _ _ _ _ (by rw [hfl]; exact hsz), hfl]
    simp only at this ⊢
    split at this
    · rename_i hb
      rw [if_pos (by omega), show o + j - (o + i * z) = j - i * z by omega]
      exact this
    · rename_i hb
      rw [if_neg (by omega)]
      exact g4 j v this
theorem SlR.cut {u : PH} {b o n c : Nat} {z : Nat} {xs : List GV} (h : SlR u (.slice (some ⟨b, o, none⟩) n c) z xs) {lo hi : Nat} (h1 : lo ≤ hi) (h2 : hi ≤ n) : SlR u (.slice (some ⟨b, if c = lo then o else o + lo * z, none⟩) (hi - lo) (c - lo)) z ((xs.drop lo).take (hi - lo)) := by
  obtain ⟨hels, ⟨h3, rfl⟩ | ⟨a, c', h3, h4, h5⟩⟩ := h
  · simp at h3
  · simp only [Value.slice.injEq, Option.some.injEq] at h3
    obtain ⟨rfl, rfl, rfl⟩ := h3
    refine ⟨hels.part _ _, .inr ⟨⟨b, if c = lo then o else o + lo * z, none⟩, c - lo, by rw [List.length_take, List.length_drop]; congr 1; omega, by rw [List.length_take, List.length_drop]; omega, fun hc => ?_⟩⟩
    obtain ⟨cs, e, fz, g1, g2, g3⟩ := h5 (by omega)
    simp only at g2 g3 ⊢
    rw [if_neg (by omega)]
    refine ⟨cs, e, fz, trivial, g2, fun j v hj => ?_⟩
    rw [Nat.add_assoc]
    exact g3 _ _ (flats_part hels (by omega) j v hj)

def T0L : List TN := [⟨1, 0, ⟨#[]⟩, []⟩, ⟨2, 0, ⟨#[]⟩, []⟩]
theorem SlR.nil (u : PH) (z : Nat) : SlR u (.slice none 0 0) z [] := ⟨fun x hx => by simp at hx, .inl ⟨rfl, rfl⟩⟩
theorem SlO.nil (u : PH) (e : TypeId) (z : Nat) : SlO u (.slice none 0 0) e z [] := ⟨fun x hx => by simp at hx, .inl ⟨rfl, rfl⟩⟩
theorem rNew_spec (w : World) (A : PH) : Spec Tryz.prog f_ref12_New [] PH.no w fun rs m' => ∃ b, rs = [.s (ptr b)] ∧ RM A m' b T0L [] := by
  refine spec_of k_ref12_New [] (by simp) (by simp [AV.ok]) ?_
  simp (maxSteps := 2000000) only [c_ref12_New, vc_seq, vc_rg, thenQ_n, kKeep_eq, segs_nil, segs_n, ops_nil, ops_cons, vcOp, ev, evL, gvL, look, updL, put_mk, keep_mk, keepL, GV.getT, Value.oneCell', cond_true, Nat.reduceEqDiff, Nat.reduceAdd, ↓reduceIte, Nat.zero_add, Bool.and_true, Bool.true_and, true_and, and_true, initF, initP, List.map_cons, List.map_nil, Option.map_some, szAll, List.length_cons, List.length_nil, Int.reduceAdd, GV.bldT, GV.bldC, same_int, gTreeNode_sz, gTreeNode_get0, gTreeNode_set0, gTreeNode_zero, ptr]
  refine ⟨rfl, rfl, ?_⟩
  refine gh_pub 3 3 2 rfl rfl rfl fun v u hv hs hd => ?_
  simp (maxSteps := 2000000) only [dropK, ops_cons, vcOp, ev, evL, gvL, look, updL, put_mk, GV.getT, GV.same, GV.setT, cond_true, cond_false, ↓reduceIte, Bool.and_true, Bool.true_and, BEq.rfl, true_and, and_true, List.map_cons, List.map_nil, Option.map_some, kill, SV.mentions, GV.bldT, GV.bldC]
  refine ⟨rfl, ?_⟩
  refine gh_pubBox 5 5 rfl rfl fun v2 u2 hv2 hp hd2 => ?_
  obtain ⟨hok, b, e, rfl, rfl⟩ := hp
  simp (maxSteps := 2000000) only [vc_ret, thenQ_n, kKeep_eq, finQ_r, segs_nil, ops_nil, ops_cons, vcOp, ev, look, put_mk, keep_mk, keepL, cond_true, cond_false, ↓reduceIte, BEq.rfl, kill, SV.mentions]
  rw [uni_no_r] at hd2 ⊢
  refine fin_m _ rfl (fun _ _ h => h) ⟨b, rfl, v, .slice none 0 0, e, u, PH.no, PH.no, [⟨1, 0, ⟨#[]⟩, .slice none 0 0⟩, ⟨2, 0, ⟨#[]⟩, .slice none 0 0⟩], [], ?_, ⟨?_, dis_no_r _, dis_no _, hs, ⟨⟨rfl, rfl, rfl, SlR.nil _ _⟩, ⟨rfl, rfl, rfl, SlR.nil _ _⟩, trivial⟩, by simp [T0L], SlO.nil _ _ _, rfl⟩⟩
  · rw [uni_no, uni_no_r]; rfl
  · rw [uni_no, uni_no_r]; exact hd2

theorem uni_upd_l (a r : PH) (b : Nat) (o : Obj) : (uni a r).upd b o = uni (a.upd b o) r := by
  funext j
  by_cases h : j = b
  · subst h; simp [PH.upd, uni]
  · simp [PH.upd, uni, h]
theorem dis_upd_l {a r : PH} {b : Nat} {o : Obj} (h : dis a r) (ha : a b ≠ none) : dis (a.upd b o) r := fun j => by
  by_cases e : j = b
  · subst e; exact .inr ((h j).resolve_left ha)
  · rw [upd_ne e]; exact h j
theorem TsOk.set {A : PH} {t : TreeNode} {a : TN} (ht : t.node = a.node ∧ t.parent = a.parent ∧ t.name = a.name ∧ SlR A t.attrs 2 (a.attrs.map gAttr)) : ∀ {ts : List TreeNode} {l : List TN} {i : Nat}, TsOk A ts l → TsOk A (ts.set i t) (l.set i a)
  | [], [], _, _ => trivial
  | _ :: _, _ :: _, 0, h => ⟨ht, h.2⟩
  | _ :: _, _ :: _, i + 1, h => ⟨h.1, h.2.set ht⟩
  | [], _ :: _, _, h => h.elim
  | _ :: _, [], _, h => h.elim
theorem TsOk.ins {A : PH} {t : TreeNode} {a : TN} (ht : t.node = a.node ∧ t.parent = a.parent ∧ t.name = a.name ∧ SlR A t.attrs 2 (a.attrs.map gAttr)) : ∀ {ts : List TreeNode} {l : List TN} (i : Nat), TsOk A ts l → TsOk A (ts.take i ++ t :: ts.drop i) (l.take i ++ a :: l.drop i)
  | [], [], i, _ => by simp; exact ⟨ht, trivial⟩
  | x :: ts, y :: l, 0, h => ⟨ht, h⟩
  | x :: ts, y :: l, i + 1, h => ⟨h.1, h.2.ins ht i⟩
  | [], _ :: _, _, h => h.elim
  | _ :: _, [], _, h => h.elim
/-- A node in its place, in that of one with its number. -/
def putL (l : List TN) (a : TN) : List TN := if isL l a.node = true then l.set (findL l a.node) a else l.take (findL l a.node) ++ a :: l.drop (findL l a.node)

theorem rput_spec (w : World) (A m : PH) (b : Nat) (l : List TN) (ls : List (List TN)) (h : RM A m b l ls) (t : TreeNode) (a : TN) (ht : t.node = a.node ∧ t.parent = a.parent ∧ t.name = a.name ∧ SlR A t.attrs 2 (a.attrs.map gAttr)) (hl : l.length ≤ 1099511627776) :
    Spec Tryz.prog f_ref12_Tree_put [ptr b, (gTreeNode t).val] m w fun rs m' => rs = [] ∧ RM A m' b (putL l a) ls := by
  refine spec_of k_ref12_Tree_put [.g (.s (ptr b)), .g (gTreeNode t)] (by simp) (by simp [AV.ok, GV.ok, Value.oneCell', ptr, gTreeNode_ok t (TnOk_one ht.2.2.2)]) ?_
  simp (maxSteps := 2000000) only [c_ref12_Tree_put, vc_seq, vc_rg, thenQ_n, kKeep_eq, segs_nil, segs_n, ops_nil, ops_cons, vcOp, ev, look, updL, put_mk, keep_mk, keepL, GV.getT, Nat.reduceEqDiff, ↓reduceIte, reduceCtorEq, List.nil_append, Nat.zero_add, Bool.true_and, Bool.not_false, true_and, initF, initP, getT_nil, fits_s, gTreeNode_fld0, gTreeNode_get0, gTreeNode_zero, ptr]
  refine call_ism _ [.s (.int .i64 (findL l t.node)), .s (.bool (isL l t.node))] rfl rfl (fun w' vs hv _ _ hm => ?_) ?_
  · obtain ⟨vs, rfl, _, hv⟩ := argsV_g hv
    obtain ⟨vs, rfl, _, hv⟩ := argsV_g hv
    obtain rfl := argsV_nil hv
    exact find_spec w' A m hm b l ls h t.node (by omega)
  simp (maxSteps := 2000000) only [retS, List.getElem?_cons_zero, List.getElem?_cons_succ, vc_skip, vc_seq, vc_rg, vc_rgq, vc_ite, thenQ_n, kKeep_eq, segs_nil, segs_n, ops_nil, ops_cons, qsegs_n, qops_cons, vcqOp, vcOp, isRd, ev, look, put_mk, keep_mk, keepL, Nat.reduceEqDiff, ↓reduceIte, reduceCtorEq, Nat.add_zero, Bool.true_and, true_and, br_t]
  have hfl := findL_le l t.node
  have hlk := h.look
  obtain ⟨nv, wv, e, mn, mw, mo, ts, vs, rfl, p⟩ := h
  have hlts := p.told.len
  have hlen0 : 0 < l.length := List.length_pos_iff.2 p.ne
  obtain ⟨a0, c, hnv⟩ := slr_len p.rows.toR
  rw [List.length_map, hlts] at hnv
  subst hnv
  obtain ⟨b2, o2, rfl, _, hc, _⟩ := p.rows.toR.spot (by simp; omega)
  obtain ⟨d1, d2, d3, hrows, htold, hne, hwas, holds⟩ := p
  have hd1n := dis_of_uni_r d1
  have hcell : ∀ {C : Ctx} {ph : List PH}, Seen C ph (uni (one b (.cells #[.slice (some ⟨b2, o2, none⟩) l.length c, wv] e (0, 0))) (uni mn (uni mw mo))) b 0 (.s (.slice (some ⟨b2, o2, none⟩) l.length c)) := fun {C ph} => seen_cell kn_m (sub_uni_l _ _ _ _ (one_self _ _)) rfl rfl
  refine ⟨fun his => ?_, fun hno => ?_⟩
  · have hlt : findL l t.node < l.length := by
      rcases Nat.lt_or_ge (findL l t.node) l.length with h | h
      · exact h
      · rw [isL, List.getElem?_eq_none h] at his; cases his
    refine ld_of _ hcell rfl ?_
    simp (maxSteps := 2000000) only [segs_n, ops_cons, qsegs_nil, qops_nil, qops_cons, vcqOp, vcOp, isRd, ev, look, put_mk, Nat.reduceEqDiff, ↓reduceIte, reduceCtorEq, Bool.true_and, true_and, Int.toNat_natCast, getT_nil, gTreeNode_fits]
    refine ⟨⟨by omega, by omega⟩, ?_⟩
    obtain ⟨cs, g1, g2, g3⟩ := hrows.stored (i := findL l t.node) (by simp; omega) (gTreeNode_ok t (TnOk_one ht.2.2.2)) (gTreeNode_sz t)
    have hb2 : (one b (.cells #[.slice (some ⟨b2, o2, none⟩) l.length c, wv] e (0, 0))) b2 = none := by
      rcases hd1n.1 b2 with q | q
      · exact q
      · rw [g1] at q; cases q
    refine st_of (gTreeNode_sz t) cs 32 ⟨by simp only [uni, hb2, Option.none_or, g1, Option.some_or], g2⟩ ?_
    simp (maxSteps := 2000000) only [vc_ret, thenQ_n, thenQ_r, kKeep_eq, finQ_r, segs_nil, ops_nil, put_mk0, keep_mk, keepL]
    rw [uni_upd hb2, uni_upd_l]
    refine fin_m _ rfl (fun _ _ h => h) ⟨rfl, _, _, _, _, _, _, ts.set (findL l t.node) t, vs, rfl, ⟨?_, dis_upd_l d2 (by rw [g1]; simp), d3, ?_, ?_, ?_, hwas, holds⟩⟩
    · rw [← uni_upd_l]; exact dis_upd d1 hb2
    · rw [List.map_set]; exact g3
    · rw [putL, ← ht.1, if_pos his]; exact htold.set ht
    · rw [putL, ← ht.1, if_pos his]
      intro e
      have := congrArg List.length e
      simp only [List.length_set, List.length_nil] at this
      omega
  · refine ld_of _ hcell rfl ?_
    simp (maxSteps := 2000000) only [ops_cons, vcOp, ev, look, put_mk, bndN, Nat.reduceEqDiff, Nat.reduceMul, ↓reduceIte, reduceCtorEq, Nat.add_zero, Int.toNat_natCast]
    refine ⟨by omega, ?_⟩
    have hM : uni (one b (.cells #[.slice (some ⟨b2, o2, none⟩) l.length c, wv] e (0, 0))) (uni mn (uni mw mo)) = uni mn (uni (one b (.cells #[.slice (some ⟨b2, o2, none⟩) l.length c, wv] e (0, 0))) (uni mw mo)) := by rw [← uni_assoc, uni_comm hd1n.1, uni_assoc]
    refine gh_frz hM (dis_uni_r (dis_comm hd1n.1) d2) ?_
    simp (maxSteps := 2000000) only [ops_cons, vcOp]
    have hlo : SlR mn (.slice (some ⟨b2, if c = 0 then o2 else o2 + 0 * 4, none⟩) (findL l t.node - 0) (c - 0)) 4 ((ts.take (findL l t.node)).map gTreeNode) := by
      have := hrows.toR.cut (lo := 0) (hi := findL l t.node) (by omega) (by omega)
      rw [Nat.sub_zero, List.drop_zero] at this
      rw [List.map_take]; exact this
    have hhi : SlR mn (.slice (some ⟨b2, if c = findL l t.node then o2 else o2 + findL l t.node * 4, none⟩) (l.length - findL l t.node) (c - findL l t.node)) 4 ((ts.drop (findL l t.node)).map gTreeNode) := by
      have := hrows.toR.cut (lo := findL l t.node) (hi := l.length) (by omega) (by omega)
      rw [List.map_drop]
      rw [List.take_of_length_le (by simp; omega)] at this
      exact this
    refine gh_rk 27 27 (gTreeNode zTreeNode) rfl rfl hlo (KN.mem (by simp)) ?_
    simp (maxSteps := 2000000) only [List.length_map, ops_cons, vcOp, ev, look, rowE, Value.oneCell', cond_true, ↓reduceIte, Bool.true_and, true_and, List.drop_zero, List.length_map, List.length_map]
    have hlt1 : (ts.take (findL l t.node)).length = findL l t.node := by rw [List.length_take]; omega
    have hlt2 : (ts.drop (findL l t.node)).length = l.length - findL l t.node := by rw [List.length_drop]; omega
    have tk : ∀ ys : List TreeNode, List.take ys.length (ys.map gTreeNode) = ys.map gTreeNode := fun ys => List.take_of_length_le (by simp)
    rw [tk]
    refine app_nil rfl rfl (by omega) ?_
    simp (maxSteps := 2000000) only [List.length_map, vc_seq, vc_rg, thenQ_n, kKeep_eq, segs_nil, segs_n, ops_nil, ops_cons, vcOp, ev, evL, gvL, look, updL, put_mk, keep_mk, keepL, rowE, cond_true, cond_false, Nat.reduceEqDiff, Nat.reduceBEq, ↓reduceIte, reduceCtorEq, Nat.zero_add, Nat.add_zero, Bool.and_true, Bool.true_and, BEq.rfl, true_and, and_true, Option.map_some, szAll, List.length_cons, List.length_nil, kill, SV.mentions, ne_eq, not_false_eq_true, List.drop_zero, List.take_succ_cons, List.take_zero, getT_nil, List.length_map, gTreeNode_sz, gTreeNode_fits, List.length_map]
    refine ⟨by omega, ?_⟩
    refine ld_of _ (seen_cell kn_m (sub_uni_l _ _ _ _ (one_self _ _)) rfl rfl) rfl ?_
    simp (maxSteps := 2000000) only [ops_cons, vcOp, ev, look, put_mk, rowE, bndN, Nat.reduceEqDiff, ↓reduceIte, reduceCtorEq, Int.toNat_natCast]
    refine ⟨by omega, ?_⟩
    refine gh_rk 40 40 (gTreeNode zTreeNode) rfl rfl (by simpa using hhi) (KN.mem (by simp)) ?_
    simp (maxSteps := 2000000) only [List.length_map, List.length_append, ops_cons, vcOp, ev, look, updL, put_mk, rowE, cond_true, cond_false, Nat.reduceEqDiff, Nat.reduceBEq, ↓reduceIte, Nat.zero_add, Bool.and_true, Bool.true_and, BEq.rfl, true_and, and_true, List.length_cons, List.length_nil, kill, SV.mentions, ne_eq, not_false_eq_true, List.drop_zero, List.length_map, List.length_map]
    refine ⟨by simp only [List.length_drop, List.length_map]; omega, ?_⟩
    refine gh_pub 41 28 _ rfl rfl ?_ fun v u hv hs hd => ?_
    · simp only [List.length_append, List.length_map, List.length_cons, List.length_nil, List.length_take, List.length_drop]; omega
    simp (maxSteps := 2000000) only [ops_cons, vcOp, ev, look, put_mk, cond_true, cond_false, Nat.reduceEqDiff, Nat.reduceBEq, ↓reduceIte, Nat.add_zero, BEq.rfl, kill, SV.mentions]
    obtain ⟨e1, e2⟩ := dis_of_uni_r hd
    have hub : u b = none := by
      rcases e1 b with q | q
      · exact q
      · rw [one_self] at q; cases q
    refine st_of rfl #[.slice (some ⟨b2, o2, none⟩) l.length c, wv] e ⟨by simp only [uni, hub, Option.none_or, one_self, Option.some_or], by simp⟩ ?_
    simp (maxSteps := 2000000) only [kKeep_eq, finQ_n, segs_nil, ops_nil, put_mk0, keep_mk, keepL]
    rw [uni_upd hub, uni_one_upd]
    have hM2 : uni u (uni (one b (.cells #[v, wv] e (0, 0))) (uni mw mo)) = uni (one b (.cells #[v, wv] e (0, 0))) (uni u (uni mw mo)) := by
      rw [← uni_assoc, uni_comm (dis_comm (dis_one_of (dis_comm e1))), uni_assoc]
    refine fin_m (uni (one b (.cells #[v, wv] e (0, 0))) (uni u (uni mw mo))) rfl (by intro x y hxy; rw [← hM2] at hxy; exact hxy) ⟨rfl, v, wv, e, u, mw, mo, ts.take (findL l t.node) ++ t :: ts.drop (findL l t.node), vs, rfl, ⟨dis_uni_r (dis_one_of (dis_comm e1)) (dis_one_of hd1n.2), e2, d3, ?_, ?_, ?_, hwas, holds⟩⟩
    · have := hs
      simp only [List.map_append, List.map_cons, List.map_drop, List.append_assoc, List.cons_append, List.nil_append] at this ⊢
      rw [List.take_length] at this
      exact this
    · rw [putL, ← ht.1, hno, if_neg (by simp)]; exact htold.ins ht _
    · rw [putL, ← ht.1, hno, if_neg (by simp)]; simp
end Go.Proofs.YtnoeabmpdjpfaaaGreatDoor.Vc

/- The document's lists of nodes: told plainly; an attribute set. -/
set_option linter.unusedVariables false
set_option linter.unusedSimpArgs false
set_option maxRecDepth 100000
namespace Go.Proofs.YtnoeabmpdjpfaaaGreatDoor.Vc
open Go Go.Proofs

def plainL (l : List TN) : List TN := l.filter fun t => decide (t.node > 2) || decide (0 < t.attrs.length)

theorem Plain_spec (w : World) (va : Value) (ts : List TreeNode) (l : List TN) (u : PH) (hu : u.le w) (ha : SlR u va 4 (ts.map gTreeNode)) (hts : TsOk u ts l) (hn : l.length ≤ 1099511627776) (hs : ∀ t ∈ l, t.attrs.length ≤ 1099511627776) :
    Spec Tryz.prog f_ref12_Plain [va] PH.no w fun rs m' => ∃ v ts', rs = [.s v] ∧ SlR m' v 4 (ts'.map gTreeNode) ∧ TsOk m' ts' (plainL l) := by
  refine spec_of k_ref12_Plain [.ro va 4 (gTreeNode zTreeNode) (ts.map gTreeNode)] (by simp) (by simpa [AV.ok, u0_no] using ha.up hu.sub) ?_
  have hlts := hts.len
  simp (maxSteps := 2000000) only [c_ref12_Plain, vc_seq, vc_rg, thenQ_n, kKeep_eq, segs_nil, segs_n, ops_nil, ops_cons, vcOp, ev, look, put_mk, keep_mk, keepL, Value.oneCell', cond_true, ↓reduceIte, reduceCtorEq, initF, initP, List.length_map, List.length_map]
  refine gh_nil 3 3 32 4 (gTreeNode zTreeNode) rfl rfl ?_
  simp (maxSteps := 2000000) only [vc_block, thenQ_n, kKeep_eq, segs_nil, ops_nil, ops_cons, vcOp, ev, look, put_mk, keep_mk, keepL, Value.oneCell', cond_true, Nat.reduceEqDiff, ↓reduceIte, reduceCtorEq]
  refine vc_loop (ι := Nat × List TreeNode) (fun q => ⟨[(0, .row 0 0 (ts.length)), (3, .row 3 0 (q.2.length)), (4, .g (.s (.int .i64 (q.1))))], [(0, .ro 4 (gTreeNode zTreeNode) (ts.map gTreeNode)), (3, .row 32 4 (gTreeNode zTreeNode) (q.2.map gTreeNode))], [], PH.no⟩)
    (fun q => q.1 ≤ ts.length ∧ q.2.length ≤ q.1 ∧ TsOk u q.2 (plainL (l.take q.1))) (fun q => ts.length - q.1) (0, []) ⟨by simp, by simp, trivial⟩ (ge_of ?_ ?_ rfl rfl rfl) ?_
  · simp [frIn, look]
  · simp [pvIn, look]
  rintro ⟨i, os⟩ ⟨hi, hol, hos⟩
  simp only at hi hol hos
  generalize hQ : loopQ _ _ _ _ _ = Q
  simp (maxSteps := 2000000) only [c_ref12_Plain_L0, vc_skip, vc_exit, vc_seq, vc_block, vc_rg, vc_ite, thenQ_n, thenQ_e, blockQ_n, kKeep_eq, segs_nil, segs_n, segs_g, ops_nil, ops_cons, vcOp, RO.isGh, skip_mk, skipL, ev, evL, gvL, look, updL, put_mk, keep_mk, keepL, rowE, rowD, binV, binC, GV.getT, Value.oneCell', cond_true, cond_false, Nat.reduceEqDiff, Nat.reduceBEq, ↓reduceIte, reduceCtorEq, List.nil_append, Nat.zero_add, Bool.and_true, Bool.true_and, Bool.not_false, BEq.rfl, true_and, and_true, Option.map_some, szAll, List.length_cons, List.length_nil, Int.toNat_natCast, decide_eq_true_eq, decide_eq_false_iff_not, kill, SV.mentions, ne_eq, not_false_eq_true, List.drop_zero, List.take_succ_cons, List.take_zero, ↓br_tt, ↓br_ft, br_t, br_f, getT_nil, List.length_map, fits_s, gTreeNode_sz, gTreeNode_fits, gTreeNode_fld0, gTreeNode_get0, gTreeNode_fld3, gTreeNode_get3, gTreeNode_zero, getD_gTreeNode, List.length_map]
  refine ⟨fun hlt => ⟨⟨by omega, by omega⟩, ?_⟩, fun hge => ?_⟩
  · obtain ⟨t, ht⟩ : ∃ t, ts.getD i zTreeNode = t := ⟨_, rfl⟩
    obtain ⟨r, hr⟩ : ∃ r, l.getD i zTN = r := ⟨_, rfl⟩
    have hrm : r ∈ l := by rw [← hr, List.getD_eq_getElem?_getD, List.getElem?_eq_getElem (by omega)]; exact List.getElem_mem _
    obtain ⟨e1, e2, e3, hsl⟩ := hts.at i (by omega)
    rw [ht, hr] at e1 e2 e3 hsl
    have htake : plainL (l.take (i + 1)) = plainL (l.take i) ++ if (decide (r.node > 2) || decide (0 < r.attrs.length)) = true then [r] else [] := by
      rw [List.take_add_one]
      have : l[i]?.toList = [r] := by rw [← hr, List.getD_eq_getElem?_getD, List.getElem?_eq_getElem (by omega)]; rfl
      rw [this, plainL, List.filter_append, List.filter_cons]
      rfl
    obtain ⟨a, c, hv⟩ := slr_len hsl
    rw [List.length_map] at hv
    rw [ht]
    have yes : (decide (r.node > 2) || decide (0 < r.attrs.length)) = true → ∀ (fr : List (Nat × SV)) (pv : List (Nat × PV)), frIn fr [(0, .row 0 0 (ts.length)), (3, .row 3 0 (os.length + 1)), (4, .g (.s (.int .i64 ((i + 1 : Nat)))))] →
        pvIn pv [(0, .ro 4 (gTreeNode zTreeNode) (ts.map gTreeNode)), (3, .row 32 4 (gTreeNode zTreeNode) (os.map gTreeNode ++ [gTreeNode t]))] → Q .normal ⟨fr, pv, [], PH.no⟩ := by
      intro hy fr pv hfr hpv
      subst hQ; simp only [loopQ_n]
      refine ⟨(i + 1, os ++ [t]), ⟨by simp only; omega, by simp; omega, ?_⟩, by simp only; omega, ge_of (by simpa using hfr) (by simpa using hpv) rfl rfl rfl⟩
      simp only
      rw [htake, if_pos hy]
      exact hos.snoc ⟨e1, e2, e3, hsl⟩
    have no : (decide (r.node > 2) || decide (0 < r.attrs.length)) = false → ∀ (fr : List (Nat × SV)) (pv : List (Nat × PV)), frIn fr [(0, .row 0 0 (ts.length)), (3, .row 3 0 (os.length)), (4, .g (.s (.int .i64 ((i + 1 : Nat)))))] →
        pvIn pv [(0, .ro 4 (gTreeNode zTreeNode) (ts.map gTreeNode)), (3, .row 32 4 (gTreeNode zTreeNode) (os.map gTreeNode))] → Q .normal ⟨fr, pv, [], PH.no⟩ := by
      intro hy fr pv hfr hpv
      subst hQ; simp only [loopQ_n]
      refine ⟨(i + 1, os), ⟨by simp only; omega, by simp only; omega, ?_⟩, by simp only; omega, ge_of hfr hpv rfl rfl rfl⟩
      simp only
      rw [htake, hy]
      simpa using hos
    obtain ⟨tn, tp, tm, tv⟩ := t
    simp only at e1 e2 e3 hsl hv
    subst hv
    simp (maxSteps := 2000000) only []
    rw [← e1] at yes no
    refine ⟨fun k1 => ⟨⟨by omega, by omega⟩, fun k2 => ⟨⟨by omega, by omega⟩, by omega, yes ?_ _ _ ?_ ?_⟩, fun k2 => no ?_ _ _ ?_ ?_⟩, fun k1 => ⟨⟨by omega, by omega⟩, by omega, yes ?_ _ _ ?_ ?_⟩⟩
    · rw [decide_eq_false k1, decide_eq_true (by omega)]; rfl
    · simp only [frIn, look, Nat.reduceEqDiff, ↓reduceIte, reduceCtorEq, Bool.and_true, Bool.true_and, true_and, and_true]
      rw [wrap_n (by omega)]
      try simp
    · simp [pvIn, look]
    · rw [decide_eq_false k1, decide_eq_false (by omega)]; rfl
    · simp only [frIn, look, Nat.reduceEqDiff, ↓reduceIte, reduceCtorEq, Bool.and_true, Bool.true_and, true_and, and_true]
      rw [wrap_n (by omega)]
      try simp
    · simp [pvIn, look]
    · rw [decide_eq_true k1]; rfl
    · simp only [frIn, look, Nat.reduceEqDiff, ↓reduceIte, reduceCtorEq, Bool.and_true, Bool.true_and, true_and, and_true]
      rw [wrap_n (by omega)]
      try simp
    · simp [pvIn, look]
  · subst hQ
    simp (maxSteps := 2000000) only [vc_seq, vc_rg, thenQ_n, blockQ_e, loopQ_e, segs_n, ops_cons, vcOp, ev, look, put_mk, ↓reduceIte, reduceCtorEq]
    refine call_ownm rfl rfl (Q := fun rs m' => ∃ v mn ma ts', rs = [.s v] ∧ m' = uni mn ma ∧ dis mn ma ∧ SlO mn v 32 4 (ts'.map gTreeNode) ∧ TsOk ma ts' (plainL l)) (fun w' vs hv hw _ _ => ?_) fun rs m1 _ hq _ => ?_
    · obtain ⟨v1, vs, rfl, k1, hv⟩ := argsV_row (z := 4) (xs := os.map gTreeNode) rfl (by simp) hv
      obtain rfl := argsV_nil hv
      have hi' : i = l.length := by omega
      rw [hi', List.take_length] at hos
      have h1 : PH.sub u w'.ph := fun b o h => hw b o (by rw [u0_no]; exact hu b o h)
      have h2 := hos.len
      have h3 : (plainL l).length ≤ l.length := List.length_filter_le _ _
      exact clone_spec w' v1 os (plainL l) w'.ph (fun _ _ h => h) k1 (hos.up h1) (by omega) fun t ht => hs t (List.mem_filter.1 ht).1
    obtain ⟨v, mn, ma, ts', rfl, rfl, hd, h1, h2⟩ := hq
    simp (maxSteps := 2000000) only [retS, uni_no_r, vc_ret, thenQ_n, kKeep_eq, finQ_r, segs_nil, ops_nil, ops_cons, vcOp, ev, look, put_mk, keep_mk, keepL, ↓reduceIte]
    exact fin_m (rs := [.s v]) _ rfl (fun _ _ h => h) ⟨v, ts', rfl, h1.toR.up (sub_uni_l _ _), h2.up (sub_uni_r hd)⟩

theorem rNodes_spec (w : World) (A m : PH) (hm : m.le w) (hA : A.le w) (b : Nat) (l : List TN) (ls : List (List TN)) (h : RM A m b l ls) (hn : l.length ≤ 1099511627776) (hs : ∀ t ∈ l, t.attrs.length ≤ 1099511627776) :
    Spec Tryz.prog f_ref12_Tree_Nodes [ptr b] PH.no w fun rs m' => ∃ v ts', rs = [.s v] ∧ SlR m' v 4 (ts'.map gTreeNode) ∧ TsOk m' ts' (plainL l) := by
  refine spec_of k_ref12_Tree_Nodes [.g (.s (ptr b))] (by simp) (by simp [AV.ok, GV.ok, Value.oneCell', ptr]) ?_
  obtain ⟨b2, o2, c, ts, hlts, h0, hts, hsl, hs0, _⟩ := h.look
  have hk : ∀ {l : List PH}, KN (⟨Tryz.prog, 8, w, PH.no⟩ : Ctx).u0 l m := kn_u hm
  simp (maxSteps := 2000000) only [c_ref12_Tree_Nodes, vc_seq, vc_rg, thenQ_n, kKeep_eq, segs_nil, segs_n, ops_nil, ops_cons, vcOp, ev, look, put_mk, keep_mk, keepL, Value.oneCell', cond_true, ↓reduceIte, reduceCtorEq, Nat.add_zero, initF, initP, ptr]
  refine ld_of _ (hs0 hk) rfl ?_
  simp (maxSteps := 2000000) only [ops_cons, vcOp, put_mk]
  refine call_ownm rfl rfl (Q := fun rs m' => ∃ v ts', rs = [.s v] ∧ SlR m' v 4 (ts'.map gTreeNode) ∧ TsOk m' ts' (plainL l)) (fun w' vs hv hw _ _ => ?_) fun rs m1 _ hq _ => ?_
  · obtain ⟨vs, rfl, _, hv⟩ := argsV_g hv
    obtain rfl := argsV_nil hv
    have sm : PH.sub m w'.ph := fun b o h => hw b o (by rw [u0_no]; exact hm b o h)
    have sA : PH.sub A w'.ph := fun b o h => hw b o (by rw [u0_no]; exact hA b o h)
    exact Plain_spec w' _ ts l w'.ph (fun _ _ h => h) (hsl.up sm) (hts.up sA) hn hs
  obtain ⟨v, ts', rfl, h1, h2⟩ := hq
  simp (maxSteps := 2000000) only [retS, uni_no_r, vc_ret, thenQ_n, kKeep_eq, finQ_r, segs_nil, ops_nil, ops_cons, vcOp, ev, look, put_mk, keep_mk, keepL, ↓reduceIte]
  exact fin_m (rs := [.s v]) _ rfl (fun _ _ h => h) ⟨v, ts', rfl, h1, h2⟩

/-! ### set -/
def setG (key value : ByteArray) : List Attr → Bool → List Attr
  | [], d => if d = true then [] else [⟨key, value⟩]
  | a :: l, d => (if (!d && !_root_.Go.Op.bytesLess a.key.data.toList key.data.toList) = true then [⟨key, value⟩] else []) ++ (if a.key = key then [] else [a]) ++ setG key value l (d || !_root_.Go.Op.bytesLess a.key.data.toList key.data.toList)
def setL (l : List Attr) (key value : ByteArray) : List Attr := setG key value l (decide (value = ⟨#[]⟩))
theorem setG_len (key value : ByteArray) : ∀ (l : List Attr) (d : Bool), (setG key value l d).length ≤ l.length + if d = true then 0 else 1
  | [], d => by cases d <;> simp [setG]
  | a :: l, d => by
    have ih := setG_len key value l (d || !_root_.Go.Op.bytesLess a.key.data.toList key.data.toList)
    have h1 : (if a.key = key then ([] : List Attr) else [a]).length ≤ 1 := by split <;> simp
    rw [setG]
    simp only [List.length_append, List.length_cons]
    generalize _root_.Go.Op.bytesLess a.key.data.toList key.data.toList = bb at *
    cases d <;> cases bb <;> simp at ih ⊢ <;> omega

theorem set_spec (w : World) (v : Value) (l : List Attr) (key value : ByteArray) (u : PH) (hu : u.le w) (h : SlR u v 2 (l.map gAttr)) (hl : l.length ≤ 1099511627776) :
    Spec Tryz.prog f_ref12_set [v, .string key, .string value] PH.no w fun rs m' => ∃ v', rs = [.s v'] ∧ SlO m' v' 55 2 ((setL l key value).map gAttr) := by
  refine spec_of k_ref12_set [.ro v 2 (gAttr zAttr) (l.map gAttr), .g (.s (.string key)), .g (.s (.string value))] (by simp) (by simpa [AV.ok, u0_no, GV.ok, Value.oneCell'] using h.up hu.sub) ?_
  simp (maxSteps := 2000000) only [c_ref12_set, vc_seq, vc_rg, thenQ_n, kKeep_eq, segs_nil, segs_n, ops_nil, ops_cons, vcOp, ev, look, put_mk, keep_mk, keepL, Value.oneCell', cond_true, Nat.reduceEqDiff, Nat.reduceAdd, ↓reduceIte, reduceCtorEq, Nat.zero_add, initF, initP, Int.reduceAdd, List.length_map, List.length_map]
  refine gh_nil 7 7 55 2 (gAttr zAttr) rfl rfl ?_
  simp (maxSteps := 2000000) only [vc_seq, vc_block, vc_rg, thenQ_n, kKeep_eq, segs_nil, segs_n, ops_nil, ops_cons, vcOp, ev, look, put_mk, keep_mk, keepL, binV, binC, Value.oneCell', cond_true, Nat.reduceEqDiff, ↓reduceIte, reduceCtorEq, Bool.true_and, true_and]
  have h0 := setG_len key value l (decide (value = ⟨#[]⟩))
  refine vc_loop (ι := Nat × List Attr × Bool) (fun q => ⟨[(0, .row 0 0 (l.length)), (1, .g (.s (.string (key)))), (2, .g (.s (.string (value)))), (7, .row 7 0 (q.2.1.length)), (8, .g (.s (.bool (q.2.2)))), (9, .g (.s (.int .i64 (q.1))))], [(0, .ro 2 (gAttr zAttr) (l.map gAttr)), (7, .row 55 2 (gAttr zAttr) (q.2.1.map gAttr))], [], PH.no⟩)
    (fun q => q.1 ≤ l.length ∧ setL l key value = q.2.1 ++ setG key value (l.drop q.1) q.2.2) (fun q => l.length - q.1) (0, [], decide (value = ⟨#[]⟩)) ⟨by simp, by simp [setL]⟩ (ge_of ?_ ?_ rfl rfl rfl) ?_
  · simp [frIn, look]
  · simp [pvIn, look]
  rintro ⟨i, os, d⟩ ⟨hi, hj⟩
  simp only at hi hj
  generalize hQ : loopQ _ _ _ _ _ = Q
  have hos : os.length ≤ l.length + 1 := by
    have := congrArg List.length hj
    rw [List.length_append, setL] at this
    split at h0 <;> omega
  simp (maxSteps := 2000000) only [c_ref12_set_L0, vc_skip, vc_exit, vc_seq, vc_block, vc_rg, vc_ite, thenQ_n, thenQ_e, blockQ_n, kKeep_eq, segs_nil, segs_n, segs_g, ops_nil, ops_cons, vcOp, RO.isGh, skip_mk, skipL, ev, evL, gvL, look, updL, put_mk, keep_mk, keepL, rowE, rowD, binV, binC, unV, GV.getT, GV.sz, GV.same, GV.setT, Value.oneCell', cond_true, cond_false, Nat.reduceEqDiff, Nat.reduceAdd, Nat.reduceBEq, ↓reduceIte, reduceCtorEq, List.nil_append, Nat.zero_add, Nat.add_zero, Bool.and_true, Bool.true_and, Bool.not_true, Bool.not_false, BEq.rfl, true_and, and_true, List.map_cons, List.map_nil, Option.map_some, szAll, List.length_cons, List.length_nil, Int.toNat_natCast, Int.reduceAdd, decide_eq_true_eq, decide_eq_false_iff_not, kill, SV.mentions, ne_eq, not_false_eq_true, List.drop_zero, List.take_succ_cons, List.take_zero, ↓br_tt, ↓br_ft, br_t, GV.bldT, GV.bldC, getT_nil, List.length_map, fits_s, gAttr_sz, gAttr_fits, gAttr_fld0, gAttr_get0, getD_gAttr, List.length_map]
  refine ⟨fun hlt => ?_, fun hge => ?_⟩
  · obtain ⟨a, ha⟩ : ∃ a, l.getD i zAttr = a := ⟨_, rfl⟩
    have hdrop : l.drop i = a :: l.drop (i + 1) := by
      rw [← ha, List.getD_eq_getElem?_getD, List.getElem?_eq_getElem (by omega)]
      exact List.drop_eq_getElem_cons (by omega)
    rw [hdrop, setG] at hj
    rw [ha]
    have go : ∀ (os' : List Attr) (d' : Bool), setL l key value = os' ++ setG key value (l.drop (i + 1)) d' → ∀ (fr : List (Nat × SV)) (pv : List (Nat × PV)), frIn fr [(0, .row 0 0 (l.length)), (1, .g (.s (.string (key)))), (2, .g (.s (.string (value)))), (7, .row 7 0 (os'.length)), (8, .g (.s (.bool (d')))), (9, .g (.s (.int .i64 ((i + 1 : Nat)))))] →
        pvIn pv [(0, .ro 2 (gAttr zAttr) (l.map gAttr)), (7, .row 55 2 (gAttr zAttr) (os'.map gAttr))] → Q .normal ⟨fr, pv, [], PH.no⟩ := by
      intro os' d' h1 fr pv hfr hpv
      subst hQ; simp only [loopQ_n]
      exact ⟨(i + 1, os', d'), ⟨by simp only; omega, h1⟩, by simp only; omega, ge_of hfr hpv rfl rfl rfl⟩
    generalize hb : _root_.Go.Op.bytesLess a.key.data.toList key.data.toList = bb at hj
    have hdk : (!decide (a.key = key)) = decide (a.key ≠ key) := by simp
    refine ⟨fun k1 => ⟨⟨by omega, by omega⟩, fun k2 => ⟨⟨rfl, rfl⟩, by omega, ⟨by omega, by omega⟩, fun k3 => ⟨⟨by omega, by omega⟩, by simp, by omega, ?_⟩, fun k3 => ?_⟩, fun k2 => ⟨⟨by omega, by omega⟩, fun k3 => ⟨⟨by omega, by omega⟩, by omega, ?_⟩, fun k3 => ?_⟩⟩, fun k1 => ⟨⟨by omega, by omega⟩, fun k3 => ⟨⟨by omega, by omega⟩, by omega, ?_⟩, fun k3 => ?_⟩⟩
    all_goals rw [hb] at *
    all_goals simp only [Bool.not_eq_true', Bool.not_eq_false', decide_eq_false_iff_not, decide_eq_true_eq] at *
    · refine go (os ++ [⟨key, value⟩] ++ [a]) true (by rw [hj, k1, k2, if_neg k3]; simp) _ _ ?_ ?_
      · simp only [frIn, look, Nat.reduceEqDiff, ↓reduceIte, reduceCtorEq, Nat.zero_add, Bool.and_true, Bool.true_and, true_and, and_true, List.length_cons, List.length_nil, List.length_append, List.length_cons, List.length_nil]
        rw [wrap_n (by omega)]
        try simp
      · simp only [pvIn, look, ↓reduceIte, reduceCtorEq, Bool.and_true, Bool.true_and, true_and, and_true, List.map_cons, List.map_nil, List.map_append, List.map_cons, List.map_nil]
        try simp
        try rfl
    · refine go (os ++ [⟨key, value⟩]) true (by rw [hj, k1, k2, if_pos k3]; simp) _ _ ?_ ?_
      · simp only [frIn, look, Nat.reduceEqDiff, ↓reduceIte, reduceCtorEq, Nat.zero_add, Bool.and_true, Bool.true_and, true_and, and_true, List.length_cons, List.length_nil, List.length_append, List.length_cons, List.length_nil]
        rw [wrap_n (by omega)]
        try simp
      · simp only [pvIn, look, ↓reduceIte, reduceCtorEq, Bool.and_true, Bool.true_and, true_and, and_true, List.map_cons, List.map_nil, List.map_append, List.map_cons, List.map_nil]
        try simp
        try rfl
    · refine go (os ++ [a]) d (by rw [hj, k1, k2, if_neg k3]; simp) _ _ ?_ ?_
      · simp only [frIn, look, Nat.reduceEqDiff, ↓reduceIte, reduceCtorEq, Nat.zero_add, Bool.and_true, Bool.true_and, true_and, and_true, List.length_cons, List.length_nil, List.length_append, List.length_cons, List.length_nil]
        rw [wrap_n (by omega)]
        try simp
      · simp only [pvIn, look, ↓reduceIte, reduceCtorEq, Bool.and_true, and_true, List.map_cons, List.map_nil, List.map_append, List.map_cons, List.map_nil]
        try simp
        try rfl
    · refine go (os) d (by rw [hj, k1, k2, if_pos k3]; simp) _ _ ?_ ?_
      · simp only [frIn, look, Nat.reduceEqDiff, ↓reduceIte, reduceCtorEq, Bool.and_true, Bool.true_and, true_and, and_true]
        rw [wrap_n (by omega)]
        try simp
      · simp only [pvIn, look, ↓reduceIte, reduceCtorEq, Bool.and_true, and_true]
        try simp
        try rfl
    · refine go (os ++ [a]) d (by rw [hj, k1, if_neg k3]; simp) _ _ ?_ ?_
      · simp only [frIn, look, Nat.reduceEqDiff, ↓reduceIte, reduceCtorEq, Nat.zero_add, Bool.and_true, Bool.true_and, true_and, and_true, List.length_cons, List.length_nil, List.length_append, List.length_cons, List.length_nil]
        rw [wrap_n (by omega)]
        try simp
      · simp only [pvIn, look, ↓reduceIte, reduceCtorEq, Bool.and_true, and_true, List.map_cons, List.map_nil, List.map_append, List.map_cons, List.map_nil]
        try simp
        try rfl
    · refine go (os) d (by rw [hj, k1, if_pos k3]; simp) _ _ ?_ ?_
      · simp only [frIn, look, Nat.reduceEqDiff, ↓reduceIte, reduceCtorEq, Bool.and_true, Bool.true_and, true_and, and_true]
        rw [wrap_n (by omega)]
        try simp
      · simp only [pvIn, look, ↓reduceIte, reduceCtorEq, Bool.and_true, and_true]
        try simp
        try rfl
  · subst hQ
    simp (maxSteps := 2000000) only [vc_skip, vc_seq, vc_rg, vc_ite, thenQ_n, blockQ_e, kKeep_eq, loopQ_e, segs_nil, segs_n, ops_nil, ops_cons, vcOp, ev, evL, gvL, look, updL, put_mk, keep_mk, keepL, rowE, unV, GV.getT, GV.sz, GV.same, GV.setT, cond_true, cond_false, Nat.reduceEqDiff, Nat.reduceAdd, Nat.reduceBEq, ↓reduceIte, reduceCtorEq, Nat.zero_add, Nat.add_zero, Bool.and_true, Bool.true_and, BEq.rfl, true_and, and_true, List.map_cons, List.map_nil, Option.map_some, szAll, List.length_cons, List.length_nil, Int.reduceAdd, kill, SV.mentions, ne_eq, not_false_eq_true, List.drop_zero, List.take_succ_cons, List.take_zero, br_t, GV.bldT, GV.bldC, List.length_map, List.length_map]
    have hdr : l.drop i = [] := List.drop_of_length_le (by omega)
    rw [hdr, setG] at hj
    refine ⟨fun k1 => ⟨⟨rfl, rfl⟩, by omega, gh_pub 57 7 (os.length + 1) rfl rfl (by simp) fun v u hv hs hd => ?_⟩, fun k1 => gh_pub 57 7 os.length rfl rfl (by simp) fun v u hv hs hd => ?_⟩
    · simp (maxSteps := 2000000) only [vc_ret, thenQ_n, kKeep_eq, finQ_r, segs_nil, ops_nil, ops_cons, vcOp, ev, look, put_mk, keep_mk, keepL, cond_true, ↓reduceIte, BEq.rfl, kill, SV.mentions]
      rw [uni_no_r]
      refine fin_m (rs := [.s v]) _ rfl (fun _ _ h => h) ⟨v, rfl, ?_⟩
      rw [hj, if_neg (by simpa using k1), List.map_append]
      exact hs
    · simp (maxSteps := 2000000) only [vc_ret, thenQ_n, kKeep_eq, finQ_r, segs_nil, ops_nil, ops_cons, vcOp, ev, look, put_mk, keep_mk, keepL, cond_true, cond_false, ↓reduceIte, BEq.rfl, kill, SV.mentions]
      rw [uni_no_r]
      refine fin_m (rs := [.s v]) _ rfl (fun _ _ h => h) ⟨v, rfl, ?_⟩
      rw [hj, if_pos (by simpa using k1), List.append_nil]
      exact hs
end Go.Proofs.YtnoeabmpdjpfaaaGreatDoor.Vc

/- The document's lists of nodes: what is seen of them: plain. -/
set_option linter.unusedVariables false
set_option linter.unusedSimpArgs false
namespace Go.Proofs.YtnoeabmpdjpfaaaGreatDoor.Vc
open Go

/-! ### Attributes in order -/
theorem attrsA_sorted : ∀ {l : List Attr} {k : ByteArray}, attrsA k l = true → l.Pairwise (fun a b => a.key.data.toList < b.key.data.toList)
  | [], _, _ => List.Pairwise.nil
  | a :: l, k, h => by
    obtain ⟨_, _, _, h4⟩ := attrsA_cons h
    exact List.pairwise_cons.2 ⟨attrsA_above h4, attrsA_sorted h4⟩
theorem mem_lookA : ∀ {l : List Attr} {k : ByteArray}, attrsA k l = true → ∀ a, a ∈ l ↔ lookA l a.key = some a.value
  | [], _, _, a => by simp [lookA]
  | b :: l, k, h, a => by
    obtain ⟨_, _, _, h4⟩ := attrsA_cons h
    have ih := mem_lookA h4 a
    rw [lookA, List.mem_cons]
    by_cases e : b.key = a.key
    · rw [if_pos e]
      constructor
      · rintro (rfl | hm)
        · rfl
        · have := attrsA_above h4 a hm
          rw [e] at this
          exact absurd this (List.lt_irrefl _)
      · intro he
        obtain ⟨ak, av⟩ := a
        obtain ⟨bk, bv⟩ := b
        simp only at e
        simp only [Option.some.injEq] at he
        subst e; subst he
        exact .inl rfl
    · rw [if_neg e, ← ih]
      constructor
      · rintro (rfl | hm)
        · exact absurd rfl e
        · exact hm
      · exact .inr
theorem attrs_uniq {la lb : List Attr} (ha : attrsA ⟨#[]⟩ la = true) (hb : attrsA ⟨#[]⟩ lb = true) (h : lookA la = lookA lb) : la = lb := by
  have sa := attrsA_sorted ha
  have sb := attrsA_sorted hb
  have nd : ∀ {l : List Attr}, l.Pairwise (fun a b => a.key.data.toList < b.key.data.toList) → l.Nodup := fun hs => hs.imp fun {a b} hab e => by
    rw [e] at hab; exact List.lt_irrefl _ hab
  have hp : la.Perm lb := (List.perm_ext_iff_of_nodup (nd sa) (nd sb)).2 fun a => by rw [mem_lookA ha, mem_lookA hb, h]
  refine List.Perm.eq_of_pairwise (le := fun a b : Attr => a.key.data.toList < b.key.data.toList) (fun a b _ _ h1 h2 => ?_) sa sb hp
  exact absurd (List.lt_trans h1 h2) (List.lt_irrefl _)

/-! ### set -/
theorem attrsA_weak {l : List Attr} {k k' : ByteArray} (h : attrsA k l = true) (hk : ∀ a ∈ l, k'.data.toList < a.key.data.toList) : attrsA k' l = true := by
  cases l with
  | nil => rfl
  | cons a l =>
    obtain ⟨_, h2, h3, h4⟩ := attrsA_cons h
    have := hk a (by simp)
    have h1 : leB a.key k' = false := by
      rw [leB, bytesLess_lt, decide_eq_false (List.lt_asymm this), decide_eq_false]
      · rfl
      · intro e; rw [e] at this; exact List.lt_irrefl _ this
    rw [attrsA, h1, h3, h4, decide_eq_false h2]; rfl
theorem attrsA_mk {a : Attr} {l : List Attr} {k : ByteArray} (h1 : k.data.toList < a.key.data.toList) (h2 : a.value ≠ ⟨#[]⟩) (h3 : pairB a.key a.value = true) (h4 : attrsA a.key l = true) : attrsA k (a :: l) = true := by
  have h0 : leB a.key k = false := by
    rw [leB, bytesLess_lt, decide_eq_false (List.lt_asymm h1), decide_eq_false]
    · rfl
    · intro e; rw [e] at h1; exact List.lt_irrefl _ h1
  rw [attrsA, h0, h3, h4, decide_eq_false h2]; rfl
theorem setG_done (key value : ByteArray) : ∀ (l : List Attr), setG key value l true = l.filter fun a => !decide (a.key = key)
  | [] => rfl
  | a :: l => by
    rw [setG, Bool.true_or, setG_done key value l, List.filter_cons]
    by_cases e : a.key = key <;> simp [e]
theorem setL_ok {key value : ByteArray} (hp : pairB key value = true) : ∀ (l : List Attr) (k : ByteArray), attrsA k l = true → k.data.toList < key.data.toList → attrsA k (setG key value l (decide (value = ⟨#[]⟩))) = true := by
  by_cases hv : value = ⟨#[]⟩
  · intro l k h hk
    rw [decide_eq_true hv, setG_done]
    clear hk
    induction l generalizing k with
    | nil => rfl
    | cons a l ih =>
      obtain ⟨h1, h2, h3, h4⟩ := attrsA_cons h
      have hab := attrsA_above h a (by simp)
      rw [List.filter_cons]
      split
      · exact attrsA_mk hab h2 h3 (ih _ h4)
      · refine attrsA_weak (ih _ h4) fun b hb => ?_
        exact attrsA_above h b (List.mem_cons_of_mem _ (List.mem_filter.1 hb).1)
  · rw [decide_eq_false hv]
    intro l
    induction l with
    | nil => intro k _ hk; rw [setG, if_neg (by simp)]; exact attrsA_mk hk hv hp rfl
    | cons a l ih =>
      intro k h hk
      obtain ⟨h1, h2, h3, h4⟩ := attrsA_cons h
      have hab := attrsA_above h a (by simp)
      rw [setG, bytesLess_lt]
      by_cases hlt : a.key.data.toList < key.data.toList
      · have hne : a.key ≠ key := fun e => by rw [e] at hlt; exact List.lt_irrefl _ hlt
        rw [decide_eq_true hlt, if_neg (by simp), if_neg hne]
        exact attrsA_mk hab h2 h3 (ih _ h4 hlt)
      · rw [decide_eq_false hlt, if_pos (by simp)]
        simp only [Bool.not_false, Bool.false_or, Bool.true_and]
        rw [setG_done]
        refine attrsA_mk hk hv hp ?_
        have hall : ∀ b ∈ l.filter (fun a => !decide (a.key = key)), key.data.toList < b.key.data.toList := fun b hb => by
          have hb' := attrsA_above h4 b (List.mem_filter.1 hb).1
          have : key.data.toList ≤ a.key.data.toList := hlt
          exact List.lt_of_le_of_lt this hb'
        have hfil : ∀ (l : List Attr) (k : ByteArray), attrsA k l = true → attrsA k (l.filter fun a => !decide (a.key = key)) = true := by
          intro l
          induction l with
          | nil => intro k _; rfl
          | cons a l ih =>
            intro k h
            obtain ⟨h1, h2, h3, h4⟩ := attrsA_cons h
            have hab := attrsA_above h a (by simp)
            rw [List.filter_cons]
            split
            · exact attrsA_mk hab h2 h3 (ih _ h4)
            · exact attrsA_weak (ih _ h4) fun b hb => attrsA_above h b (List.mem_cons_of_mem _ (List.mem_filter.1 hb).1)
        by_cases he : a.key = key
        · rw [if_pos he]
          exact attrsA_weak (hfil _ _ h4) hall
        · rw [if_neg he]
          refine attrsA_mk (lt_of_le_ne hlt fun e => he (ByteArray.ext (Array.toList_inj.1 e.symm))) h2 h3 (hfil _ _ h4)
theorem lookA_filter (key : ByteArray) : ∀ (l : List Attr) (j : ByteArray), lookA (l.filter fun a => !decide (a.key = key)) j = if j = key then none else lookA l j
  | [], j => by simp [lookA]
  | a :: l, j => by
    have ih := lookA_filter key l j
    rw [List.filter_cons]
    by_cases e : a.key = key
    · rw [if_neg (by simp [e]), ih, lookA]
      by_cases hj : j = key
      · rw [if_pos hj, if_pos hj]
      · rw [if_neg hj, if_neg hj, if_neg (fun q => hj (q.symm.trans e))]
    · rw [if_pos (by simp [e]), lookA, ih, lookA]
      by_cases hj : j = key
      · rw [if_pos hj, if_neg (fun q => e (q.trans hj)), if_pos hj]
      · rw [if_neg hj, if_neg hj]
theorem setL_look {key value : ByteArray} : ∀ (l : List Attr) (k : ByteArray), attrsA k l = true → ∀ j, lookA (setG key value l (decide (value = ⟨#[]⟩))) j = if j = key then (if value = empty then none else some value) else lookA l j := by
  by_cases hv : value = ⟨#[]⟩
  · intro l k h j
    rw [decide_eq_true hv, setG_done, lookA_filter, if_pos (show value = empty from hv)]
  · rw [decide_eq_false hv]
    intro l
    induction l with
    | nil =>
      intro k _ j
      rw [setG, if_neg (by simp)]
      show (if key = j then some value else none) = if j = key then (if value = empty then none else some value) else none
      rw [if_neg (show ¬ value = empty from hv)]
      by_cases hj : key = j
      · rw [if_pos hj, if_pos hj.symm]
      · rw [if_neg hj, if_neg (fun e => hj e.symm)]
    | cons a l ih =>
      intro k h j
      obtain ⟨h1, h2, h3, h4⟩ := attrsA_cons h
      rw [if_neg (show ¬ value = empty from hv)]
      have ih := ih _ h4 j
      rw [if_neg (show ¬ value = empty from hv)] at ih
      rw [setG, bytesLess_lt]
      by_cases hlt : a.key.data.toList < key.data.toList
      · have hne : a.key ≠ key := fun e => by rw [e] at hlt; exact List.lt_irrefl _ hlt
        rw [decide_eq_true hlt, if_neg (by simp), if_neg hne]
        simp only [Bool.not_true, Bool.or_false, List.nil_append, List.cons_append]
        rw [lookA, ih, lookA]
        by_cases hj : a.key = j
        · rw [if_pos hj, if_pos hj, if_neg (fun e => hne (hj.trans e))]
        · rw [if_neg hj, if_neg hj]
      · rw [decide_eq_false hlt, if_pos (by simp)]
        simp only [Bool.not_false, Bool.false_or, Bool.true_and]
        rw [setG_done]
        show (if key = j then some value else lookA ((if a.key = key then [] else [a]) ++ l.filter fun a => !decide (a.key = key)) j) = if j = key then some value else (if a.key = j then some a.value else lookA l j)
        by_cases hj : key = j
        · rw [if_pos hj, if_pos hj.symm]
        · have hj' : ¬ j = key := fun e => hj e.symm
          rw [if_neg hj, if_neg hj']
          by_cases he : a.key = key
          · rw [if_pos he, List.nil_append, lookA_filter, if_neg hj', if_neg (fun e => hj (he.symm.trans e))]
          · rw [if_neg he]
            show (if a.key = j then some a.value else lookA (l.filter fun a => !decide (a.key = key)) j) = _
            rw [lookA_filter, if_neg hj']

/-! ### Lists in order -/
structure LOk (l : List TN) : Prop where
  sorted : l.Pairwise (fun a b => a.node < b.node)
  attrs : ∀ t ∈ l, attrsA ⟨#[]⟩ t.attrs = true
def getL (l : List TN) (n : Int) : Option TN := if isL l n = true then l[findL l n]? else none
def viewL (l : List TN) (n : Int) : Option AN := (getL l n).map fun t => ⟨t.parent, t.name, lookA t.attrs⟩
theorem getL_cons {t : TN} {l : List TN} (n : Int) : getL (t :: l) n = if t.node < n then getL l n else if t.node = n then some t else none := by
  unfold getL isL
  rw [findL]
  by_cases h1 : t.node < n
  · rw [if_pos h1, if_pos h1, List.getElem?_cons_succ]
  · rw [if_neg h1, if_neg h1, List.getElem?_cons_zero]
    by_cases h2 : t.node = n
    · simp [h2]
    · simp [h2]
theorem getL_mem : ∀ {l : List TN}, l.Pairwise (fun a b => a.node < b.node) → ∀ {n : Int} {t : TN}, getL l n = some t ↔ t ∈ l ∧ t.node = n
  | [], _, n, t => by simp [getL, isL]
  | a :: l, h, n, t => by
    rw [List.pairwise_cons] at h
    rw [getL_cons]
    by_cases h1 : a.node < n
    · rw [if_pos h1, getL_mem h.2]
      constructor
      · rintro ⟨q1, q2⟩; exact ⟨List.mem_cons_of_mem _ q1, q2⟩
      · rintro ⟨q1, q2⟩
        rcases List.mem_cons.1 q1 with rfl | q1
        · omega
        · exact ⟨q1, q2⟩
    · rw [if_neg h1]
      by_cases h2 : a.node = n
      · rw [if_pos h2]
        constructor
        · intro e; cases e; exact ⟨by simp, h2⟩
        · rintro ⟨q1, q2⟩
          rcases List.mem_cons.1 q1 with rfl | q1
          · rfl
          · have := h.1 t q1; omega
      · rw [if_neg h2]
        constructor
        · intro e; cases e
        · rintro ⟨q1, q2⟩
          rcases List.mem_cons.1 q1 with rfl | q1
          · exact absurd q2 h2
          · have := h.1 t q1; omega
theorem isL_get {l : List TN} {n : Int} : isL l n = (getL l n).isSome := by
  unfold getL
  cases h : isL l n with
  | false => rfl
  | true =>
    rw [if_pos rfl]
    unfold isL at h
    cases hg : l[findL l n]? with
    | none => rw [hg] at h; cases h
    | some t => rfl
theorem isL_view {l : List TN} {n : Int} : isL l n = (viewL l n).isSome := by
  rw [isL_get, viewL]; cases getL l n <;> rfl
theorem getL_at {l : List TN} {n : Int} {t : TN} (h : getL l n = some t) : findL l n < l.length ∧ l.getD (findL l n) zTN = t := by
  unfold getL at h
  split at h
  · have hl := (List.getElem?_eq_some_iff.1 h).1
    exact ⟨hl, by rw [List.getD_eq_getElem?_getD, h]; rfl⟩
  · cases h
theorem putL_cons {t a : TN} {l : List TN} : putL (t :: l) a = if t.node < a.node then t :: putL l a else if t.node = a.node then a :: l else a :: t :: l := by
  unfold putL isL
  rw [findL]
  by_cases h1 : t.node < a.node
  · rw [if_pos h1, if_pos h1, List.getElem?_cons_succ]
    cases l[findL l a.node]? with
    | none => simp
    | some x =>
      simp only [List.set_cons_succ, List.take_succ_cons, List.drop_succ_cons, List.cons_append]
      split <;> rfl
  · rw [if_neg h1, if_neg h1, List.getElem?_cons_zero]
    by_cases h2 : t.node = a.node
    · simp [h2]
    · simp [h2]
theorem putL_mem : ∀ {l : List TN} {a : TN}, l.Pairwise (fun a b => a.node < b.node) → ∀ t, t ∈ putL l a ↔ t = a ∨ (t ∈ l ∧ t.node ≠ a.node)
  | [], a, _, t => by simp [putL, isL, findL]
  | b :: l, a, h, t => by
    rw [List.pairwise_cons] at h
    rw [putL_cons]
    by_cases h1 : b.node < a.node
    · rw [if_pos h1, List.mem_cons, putL_mem h.2, List.mem_cons]
      constructor
      · rintro (rfl | q | q)
        · exact .inr ⟨.inl rfl, by omega⟩
        · exact .inl q
        · exact .inr ⟨.inr q.1, q.2⟩
      · rintro (q | ⟨rfl | q, r⟩)
        · exact .inr (.inl q)
        · exact .inl rfl
        · exact .inr (.inr ⟨q, r⟩)
    · rw [if_neg h1]
      by_cases h2 : b.node = a.node
      · rw [if_pos h2, List.mem_cons, List.mem_cons]
        constructor
        · rintro (q | q)
          · exact .inl q
          · exact .inr ⟨.inr q, by have := h.1 t q; omega⟩
        · rintro (q | ⟨rfl | q, r⟩)
          · exact .inl q
          · exact absurd h2 r
          · exact .inr q
      · rw [if_neg h2, List.mem_cons, List.mem_cons]
        constructor
        · rintro (q | rfl | q)
          · exact .inl q
          · exact .inr ⟨.inl rfl, h2⟩
          · exact .inr ⟨.inr q, by have := h.1 t q; omega⟩
        · rintro (q | ⟨q, r⟩)
          · exact .inl q
          · exact .inr q
theorem putL_sorted : ∀ {l : List TN} {a : TN}, l.Pairwise (fun a b => a.node < b.node) → (putL l a).Pairwise (fun a b => a.node < b.node)
  | [], a, _ => by simp [putL, isL, findL]
  | b :: l, a, h => by
    have h' := h
    rw [List.pairwise_cons] at h
    rw [putL_cons]
    by_cases h1 : b.node < a.node
    · rw [if_pos h1, List.pairwise_cons]
      refine ⟨fun t ht => ?_, putL_sorted h.2⟩
      rcases (putL_mem h.2 t).1 ht with rfl | q
      · exact h1
      · exact h.1 t q.1
    · rw [if_neg h1]
      by_cases h2 : b.node = a.node
      · rw [if_pos h2, List.pairwise_cons]
        exact ⟨fun t ht => by have := h.1 t ht; omega, h.2⟩
      · rw [if_neg h2, List.pairwise_cons]
        refine ⟨fun t ht => ?_, h'⟩
        rcases List.mem_cons.1 ht with rfl | q
        · omega
        · have := h.1 t q; omega
theorem LOk.put {l : List TN} {a : TN} (h : LOk l) (ha : attrsA ⟨#[]⟩ a.attrs = true) : LOk (putL l a) ∧ viewL (putL l a) = updV (viewL l) a.node (some ⟨a.parent, a.name, lookA a.attrs⟩) := by
  have hs := putL_sorted (a := a) h.sorted
  refine ⟨⟨hs, fun t ht => ?_⟩, ?_⟩
  · rcases (putL_mem h.sorted t).1 ht with rfl | q
    · exact ha
    · exact h.attrs t q.1
  · funext n
    have hg : getL (putL l a) n = if n = a.node then some a else getL l n := by
      by_cases e : n = a.node
      · rw [if_pos e]
        exact (getL_mem hs).2 ⟨(putL_mem h.sorted a).2 (.inl rfl), e.symm⟩
      · rw [if_neg e]
        cases hg : getL l n with
        | some t =>
          obtain ⟨q1, q2⟩ := (getL_mem h.sorted).1 hg
          exact (getL_mem hs).2 ⟨(putL_mem h.sorted t).2 (.inr ⟨q1, by omega⟩), q2⟩
        | none =>
          cases hg' : getL (putL l a) n with
          | none => rfl
          | some t =>
            obtain ⟨q1, q2⟩ := (getL_mem hs).1 hg'
            rcases (putL_mem h.sorted t).1 q1 with rfl | q
            · exact absurd q2.symm e
            · rw [(getL_mem h.sorted).2 ⟨q.1, q2⟩] at hg; cases hg
    unfold viewL updV
    rw [hg]
    by_cases e : n = a.node
    · rw [if_pos e, if_pos e]; rfl
    · rw [if_neg e, if_neg e]
theorem plain_told {l : List TN} {T : PT} {k : Nat} (h : LOk l) (hv : viewL l = T.view) (hok : T.ok k) (hg : VGood T.view) : plainL l = nodesTold T := by
  have hs2 := toldL_sorted (T := T) (nodesK_sorted hok.nod)
  have hs1 : (plainL l).Pairwise (fun a b => a.node < b.node) := h.sorted.sublist List.filter_sublist
  have nd : ∀ {l : List TN}, l.Pairwise (fun a b => a.node < b.node) → l.Nodup := fun hs => hs.imp fun {a b} hab e => by rw [e] at hab; omega
  have hat : ∀ n x, T.get n = some x → attrsA ⟨#[]⟩ (attrsOf x) = true := fun n x hx => attrsOf_ok (hok.attrs n x hx).1 fun k w h => hg.pairs n _ k w (PT.view_get hx) h
  have key : ∀ n t x, getL l n = some t → T.get n = some x → t = toldOf n x := fun n t x h1 h2 => by
    have hvn : viewL l n = T.view n := congrFun hv n
    rw [viewL, h1, PT.view_get h2] at hvn
    simp only [Option.map_some, Option.some.injEq, PN.view, AN.mk.injEq] at hvn
    obtain ⟨q1, q2, q3⟩ := hvn
    obtain ⟨m1, m2⟩ := (getL_mem h.sorted).1 h1
    obtain ⟨tn, tp, tm, ta⟩ := t
    simp only at q1 q2 q3 m2
    have : ta = attrsOf x := attrs_uniq (h.attrs _ m1) (hat n x h2) (by rw [q3]; funext j; exact (attrsOf_look x j).symm)
    rw [toldOf, ← q1, ← q2, ← m2, this]
  have hp : (plainL l).Perm (nodesTold T) := (List.perm_ext_iff_of_nodup (nd hs1) (nd hs2)).2 fun t => by
    have hsh : ∀ t : TN, 0 < t.node → (decide (t.node > 2) || decide (0 < t.attrs.length)) = t.shown := fun t ht => by
      rw [TN.shown]
      congr 1
      simp only [topB]
      by_cases h1 : t.node = 1
      · simp [h1]
      · by_cases h2 : t.node = 2
        · simp [h2]
        · rw [decide_eq_true (by omega)]; simp [h1, h2]
    constructor
    · intro ht
      obtain ⟨m1, m2⟩ := List.mem_filter.1 ht
      have hg1 := (getL_mem h.sorted).2 ⟨m1, rfl⟩
      have hvn : viewL l t.node = T.view t.node := congrFun hv _
      rw [viewL, hg1] at hvn
      obtain ⟨x, hx, _⟩ := get_of_view hvn.symm
      have e := key _ _ _ hg1 hx
      rw [e]
      refine (mem_told hx).2 ?_
      rw [← e, ← hsh t (hg.pos _ _ (PT.view_get hx))]
      exact m2
    · intro ht
      obtain ⟨n, _, x, hx, rfl⟩ := toldL_node ht
      have hvn : viewL l n = T.view n := congrFun hv n
      rw [PT.view_get hx] at hvn
      cases hg1 : getL l n with
      | none => rw [viewL, hg1] at hvn; cases hvn
      | some t =>
        have e := key _ _ _ hg1 hx
        obtain ⟨m1, _⟩ := (getL_mem h.sorted).1 hg1
        rw [e] at m1
        refine List.mem_filter.2 ⟨m1, ?_⟩
        rw [hsh _ (hg.pos _ _ (PT.view_get hx))]
        exact (mem_told hx).1 ht
  refine List.Perm.eq_of_pairwise (le := fun a b : TN => a.node < b.node) (fun a b _ _ h1 h2 => ?_) hs1 hs2 hp
  omega
end Go.Proofs.YtnoeabmpdjpfaaaGreatDoor.Vc

/- The code of some functions of the program, its types resolved: printed by a program of this claim. -/
set_option linter.unusedVariables false
set_option maxRecDepth 100000
namespace Go.Proofs.YtnoeabmpdjpfaaaGreatDoor.Vc
open Go Go.Proofs

abbrev f_ref12_Tree_Below : Nat := 48
def c_ref12_Tree_Below_L0 : Cd :=
 (.seq (.seq (.rg [⟨none, [(some 17, .mv (.t 8))]⟩] [0, 1, 2, 8, 17])
 (.ite (.t 17)
 .skip
 (.exit 0)))
 (.block 1 (.seq (.rg [⟨none, [(some 19, .mv (.t 0)), (some 20, .mv (.t 1)), (some 21, .call 56 [(.t 19), (.t 20)]), (some 18, .mv (.t 21)), (some 22, .ext (.t 18) 0), (some 23, .ext (.t 18) 1), (some 9, .mv (.t 22)), (some 10, .mv (.t 23))]⟩] [0, 1, 2, 8, 9, 10])
 (.seq (.seq (.rg [⟨none, [(some 24, .mv (.t 10)), (some 25, .un .not (.t 24))]⟩] [0, 1, 2, 8, 9, 25])
 (.ite (.t 25)
 (.seq (.rg [⟨none, [(some 6, .mv (.c (.bool false)))]⟩] [6])
 .ret)
 .skip))
 (.seq (.seq (.rg [⟨none, [(some 26, .mv (.t 1)), (some 27, .mv (.t 2)), (some 28, .bin .eql (.t 26) (.t 27))]⟩] [0, 2, 8, 9, 28])
 (.ite (.t 28)
 (.seq (.rg [⟨none, [(some 6, .mv (.c (.bool true)))]⟩] [6])
 .ret)
 .skip))
 (.rg [⟨none, [(some 29, .mv (.t 0)), (some 30, .nilc (.t 29)), (some 31, .fldA (.t 30) 0 0), (some 32, .ld (.t 31) 1 false), (some 33, .mv (.t 9)), (some 34, .idxS (.t 32) (.t 33) 4), (some 35, .fldA (.t 34) 1 1), (some 36, .ld (.t 35) 1 false), (some 1, .mv (.t 36))]⟩] [0, 1, 2, 8]))))))
def c_ref12_Tree_Below : Cd :=
 (.seq (.rg [⟨none, [(some 6, .mv (.c (.bool false)))]⟩] [0, 1, 2])
 (.seq (.rg [⟨none, [(some 12, .mv (.t 0)), (some 13, .mv (.t 2)), (some 14, .call 56 [(.t 12), (.t 13)]), (some 11, .mv (.t 14)), (some 15, .ext (.t 11) 0), (some 16, .ext (.t 11) 1), (some 7, .mv (.t 15)), (some 8, .mv (.t 16))]⟩] [0, 1, 2, 8])
 (.seq (.block 0 (.loop c_ref12_Tree_Below_L0))
 (.seq (.rg [⟨none, [(some 6, .mv (.c (.bool false)))]⟩] [6])
 .ret))))
theorem k_ref12_Tree_Below : Ok Tryz.prog 48 c_ref12_Tree_Below 37 [] [.tmp 6] := Ok.mk' Tryz.func48 (by kernel_rfl) (by kernel_rfl) (by kernel_rfl)

abbrev f_ref12_Tree_May : Nat := 54
def c_ref12_Tree_May : Cd :=
 (.seq (.rg [⟨none, [(some 3, .box 70 (.t 1)), (some 4, .mv (.c (.bool false)))]⟩] [0, 3])
 (.seq (.rg [⟨none, [(some 10, .mv (.t 0)), (some 11, .fldA (.t 3) 2 3), (some 12, .ld (.t 11) 1 false), (some 13, .call 56 [(.t 10), (.t 12)]), (some 9, .mv (.t 13)), (some 14, .ext (.t 9) 0), (some 15, .ext (.t 9) 1), (some 5, .mv (.t 14)), (some 6, .mv (.t 15))]⟩] [0, 3, 6])
 (.seq (.rg [⟨none, [(some 17, .mv (.t 0)), (some 18, .fldA (.t 3) 3 4), (some 19, .ld (.t 18) 1 false), (some 20, .call 56 [(.t 17), (.t 19)]), (some 16, .mv (.t 20)), (some 21, .ext (.t 16) 0), (some 22, .ext (.t 16) 1), (some 7, .mv (.t 21)), (some 8, .mv (.t 22))]⟩] [0, 3, 6, 8])
 (.seq (.seq (.rg [⟨none, [(some 23, .fldA (.t 3) 1 2), (some 24, .ld (.t 23) 1 false)]⟩] [0, 3, 6, 8, 24])
 (.block 0 (.seq (.rg [⟨none, [(some 26, .bin .eql (.t 24) (.c (.int .i64 1))), (some 25, .mv (.t 26))]⟩] [0, 3, 6, 8, 24, 25])
 (.ite (.t 25)
 (.seq (.rg [⟨none, [(some 27, .fldA (.t 3) 2 3), (some 28, .ld (.t 27) 1 false), (some 29, .bin .gtr (.t 28) (.c (.int .i64 2))), (some 30, .mv (.t 29))]⟩, ⟨some (30, true), [(some 31, .mv (.t 6)), (some 32, .un .not (.t 31))]⟩, ⟨none, [(some 33, .pick (.t 30) (.t 32) (.c (.bool false))), (some 34, .mv (.t 33))]⟩, ⟨some (34, true), [(some 35, .mv (.t 8))]⟩, ⟨none, [(some 36, .pick (.t 34) (.t 35) (.c (.bool false))), (some 37, .mv (.t 36))]⟩, ⟨some (37, true), [(some 38, .fldA (.t 3) 4 5), (some 39, .ld (.t 38) 1 false), (some 40, .call 75 [(.t 39)])]⟩, ⟨none, [(some 41, .pick (.t 37) (.t 40) (.c (.bool false))), (some 4, .mv (.t 41))]⟩] [4])
 .ret)
 (.seq (.rg [⟨none, [(some 43, .bin .eql (.t 24) (.c (.int .i64 2))), (some 42, .mv (.t 43))]⟩] [0, 3, 6, 8, 24, 42])
 (.ite (.t 42)
 (.seq (.rg [⟨none, [(some 44, .mv (.t 6)), (some 45, .mv (.t 44))]⟩, ⟨some (45, true), [(some 46, .fldA (.t 3) 2 3), (some 47, .ld (.t 46) 1 false), (some 48, .bin .gtr (.t 47) (.c (.int .i64 2)))]⟩, ⟨none, [(some 49, .pick (.t 45) (.t 48) (.c (.bool false))), (some 50, .mv (.t 49))]⟩, ⟨some (50, true), [(some 51, .mv (.t 8))]⟩, ⟨none, [(some 52, .pick (.t 50) (.t 51) (.c (.bool false))), (some 53, .mv (.t 52))]⟩, ⟨some (53, true), [(some 54, .mv (.t 0)), (some 55, .fldA (.t 3) 3 4), (some 56, .ld (.t 55) 1 false), (some 57, .fldA (.t 3) 2 3), (some 58, .ld (.t 57) 1 false), (some 59, .call 48 [(.t 54), (.t 56), (.t 58)]), (some 60, .un .not (.t 59))]⟩, ⟨none, [(some 61, .pick (.t 53) (.t 60) (.c (.bool false))), (some 62, .mv (.t 61))]⟩, ⟨some (62, true), [(some 63, .fldA (.t 3) 4 5), (some 64, .ld (.t 63) 1 false), (some 65, .call 75 [(.t 64)])]⟩, ⟨none, [(some 66, .pick (.t 62) (.t 65) (.c (.bool false))), (some 4, .mv (.t 66))]⟩] [4])
 .ret)
 (.seq (.rg [⟨none, [(some 68, .bin .eql (.t 24) (.c (.int .i64 3))), (some 67, .mv (.t 68))]⟩] [3, 6, 67])
 (.ite (.t 67)
 (.seq (.rg [⟨none, [(some 69, .mv (.t 6)), (some 70, .mv (.t 69))]⟩, ⟨some (70, true), [(some 71, .fldA (.t 3) 5 6), (some 72, .ld (.t 71) 1 false), (some 73, .bin .neq (.t 72) (.c (.string ⟨#[]⟩)))]⟩, ⟨none, [(some 74, .pick (.t 70) (.t 73) (.c (.bool false))), (some 75, .mv (.t 74))]⟩, ⟨some (75, true), [(some 76, .fldA (.t 3) 5 6), (some 77, .ld (.t 76) 1 false), (some 78, .lenS (.t 77)), (some 79, .bin .leq (.t 78) (.c (.int .i64 255)))]⟩, ⟨none, [(some 80, .pick (.t 75) (.t 79) (.c (.bool false))), (some 81, .mv (.t 80))]⟩, ⟨some (81, true), [(some 82, .fldA (.t 3) 6 7), (some 83, .ld (.t 82) 1 false), (some 84, .lenS (.t 83)), (some 85, .bin .leq (.t 84) (.c (.int .i64 255)))]⟩, ⟨none, [(some 86, .pick (.t 81) (.t 85) (.c (.bool false))), (some 4, .mv (.t 86))]⟩] [4])
 .ret)
 .skip))))))))
 (.seq (.rg [⟨none, [(some 4, .mv (.c (.bool false)))]⟩] [4])
 .ret)))))
theorem k_ref12_Tree_May : Ok Tryz.prog 54 c_ref12_Tree_May 87 [] [.tmp 4] := Ok.mk' Tryz.func54 (by kernel_rfl) (by kernel_rfl) (by kernel_rfl)

abbrev f_ref12_Tree_Do : Nat := 28
def c_ref12_Tree_Do_R12 : Cd :=
 (.seq (.gh (.rg [⟨none, [(some 61, .mv (.t 0)), (some 62, .ld (.t 5) 4 true), (some 63, .call 58 [(.t 61), (.t 62)])]⟩] []))
 (.seq (.rg [⟨none, [(some 4, .mv (.c (.bool true)))]⟩] [4])
 .ret))
def c_ref12_Tree_Do_R8 : Cd :=
 (.seq (.seq (.gh (.rg [⟨none, [(some 44, .fldA (.t 3) 1 2), (some 45, .ld (.t 44) 1 false), (some 46, .bin .eql (.t 45) (.c (.int .i64 3)))]⟩] [0, 3, 5, 46]))
 (.ite (.t 46)
 (.rg [⟨none, [(some 47, .fldA (.t 5) 3 3), (some 48, .ld (.t 47) 1 false), (some 49, .fldA (.t 3) 5 6), (some 50, .ld (.t 49) 1 false), (some 51, .fldA (.t 3) 6 7), (some 52, .ld (.t 51) 1 false), (some 53, .call 57 [(.t 48), (.t 50), (.t 52)]), (some 54, .fldA (.t 5) 3 3), (none, .st (.t 54) (.t 53) 1)]⟩] [0, 5])
 (.seq (.rg [⟨none, [(some 55, .fldA (.t 3) 3 4), (some 56, .ld (.t 55) 1 false), (some 57, .fldA (.t 5) 1 1), (none, .st (.t 57) (.t 56) 1)]⟩] [0, 3, 5])
 (.rg [⟨none, [(some 58, .fldA (.t 3) 4 5), (some 59, .ld (.t 58) 1 false), (some 60, .fldA (.t 5) 2 2), (none, .st (.t 60) (.t 59) 1)]⟩] [0, 5]))))
 c_ref12_Tree_Do_R12)
def c_ref12_Tree_Do_R4 : Cd :=
 (.seq (.gh (.rg [⟨none, [(some 26, .fldA (.t 3) 2 3), (some 27, .ld (.t 26) 1 false), (some 28, .bld (.c (.s (.int .i64 0)) (.c (.s (.int .i64 0)) (.c (.s (.string ⟨#[]⟩)) (.c (.s (.slice none 0 0)) .u)))) [(0, (.t 27))]), (some 5, .new 32 (.c (.s (.int .i64 0)) (.c (.s (.int .i64 0)) (.c (.s (.string ⟨#[]⟩)) (.c (.s (.slice none 0 0)) .u))))), (none, .st (.t 5) (.t 28) 4)]⟩] [0, 3, 5]))
 (.seq (.seq (.rg [⟨none, [(some 30, .mv (.t 0)), (some 31, .fldA (.t 3) 2 3), (some 32, .ld (.t 31) 1 false), (some 33, .call 56 [(.t 30), (.t 32)]), (some 29, .mv (.t 33)), (some 34, .ext (.t 29) 0), (some 35, .ext (.t 29) 1), (some 6, .mv (.t 34)), (some 7, .mv (.t 35))]⟩] [0, 3, 5, 6, 7])
 (.seq (.rg [⟨none, [(some 36, .mv (.t 7))]⟩] [0, 3, 5, 6, 36])
 (.ite (.t 36)
 (.rg [⟨none, [(some 37, .mv (.t 0)), (some 38, .nilc (.t 37)), (some 39, .fldA (.t 38) 0 0), (some 40, .ld (.t 39) 1 false), (some 41, .mv (.t 6)), (some 42, .idxS (.t 40) (.t 41) 4), (some 43, .ld (.t 42) 4 true), (none, .st (.t 5) (.t 43) 4)]⟩] [0, 3, 5])
 .skip)))
 c_ref12_Tree_Do_R8))
def c_ref12_Tree_Do : Cd :=
 (.seq (.rg [⟨none, [(some 3, .box 70 (.t 1)), (some 4, .mv (.c (.bool false)))]⟩] [0, 3])
 (.seq (.seq (.rg [⟨none, [(some 8, .mv (.t 0)), (some 9, .ld (.t 3) 8 true), (some 10, .call 54 [(.t 8), (.t 9)]), (some 11, .un .not (.t 10))]⟩] [0, 3, 11])
 (.ite (.t 11)
 (.seq (.rg [⟨none, [(some 4, .mv (.c (.bool false)))]⟩] [4])
 .ret)
 .skip))
 (.seq (.rga (.op ⟨none, [(some 12, .mv (.t 0))]⟩ (.op ⟨none, [(some 13, .mv (.t 0))]⟩ (.op ⟨none, [(some 14, .nilc (.t 13))]⟩ (.op ⟨none, [(some 15, .fldA (.t 14) 1 1)]⟩ (.op ⟨none, [(some 17, .mv (.t 0))]⟩ (.op ⟨none, [(some 18, .nilc (.t 17))]⟩ (.op ⟨none, [(some 19, .fldA (.t 18) 0 0)]⟩ (.or (.op ⟨none, [(some 16, .ld (.t 15) 1 false)]⟩ (.op ⟨none, [(some 20, .ld (.t 19) 1 false)]⟩ (.op ⟨none, [(some 21, .call 55 [(.t 20)])]⟩ (.op ⟨none, [(some 22, .bldS 28 1 (.s (.slice none 0 0)) [(.t 21)])]⟩ (.op ⟨none, [(some 23, .app 28 1 24 (.s (.slice none 0 0)) (.t 16) (.t 22))]⟩ (.op ⟨none, [(some 24, .nilc (.t 12))]⟩ (.op ⟨none, [(some 25, .fldA (.t 24) 1 1)]⟩ (.op ⟨none, [(none, .st (.t 25) (.t 23) 1)]⟩ .done)))))))) (.op ⟨none, [(some 20, .ld (.t 19) 1 false)]⟩ (.or (.op ⟨none, [(some 16, .ld (.t 15) 1 false)]⟩ (.op ⟨none, [(some 21, .call 55 [(.t 20)])]⟩ (.op ⟨none, [(some 22, .bldS 28 1 (.s (.slice none 0 0)) [(.t 21)])]⟩ (.op ⟨none, [(some 23, .app 28 1 24 (.s (.slice none 0 0)) (.t 16) (.t 22))]⟩ (.op ⟨none, [(some 24, .nilc (.t 12))]⟩ (.op ⟨none, [(some 25, .fldA (.t 24) 1 1)]⟩ (.op ⟨none, [(none, .st (.t 25) (.t 23) 1)]⟩ .done))))))) (.op ⟨none, [(some 21, .call 55 [(.t 20)])]⟩ (.or (.op ⟨none, [(some 16, .ld (.t 15) 1 false)]⟩ (.op ⟨none, [(some 22, .bldS 28 1 (.s (.slice none 0 0)) [(.t 21)])]⟩ (.op ⟨none, [(some 23, .app 28 1 24 (.s (.slice none 0 0)) (.t 16) (.t 22))]⟩ (.op ⟨none, [(some 24, .nilc (.t 12))]⟩ (.op ⟨none, [(some 25, .fldA (.t 24) 1 1)]⟩ (.op ⟨none, [(none, .st (.t 25) (.t 23) 1)]⟩ .done)))))) (.op ⟨none, [(some 22, .bldS 28 1 (.s (.slice none 0 0)) [(.t 21)])]⟩ (.op ⟨none, [(some 16, .ld (.t 15) 1 false)]⟩ (.op ⟨none, [(some 23, .app 28 1 24 (.s (.slice none 0 0)) (.t 16) (.t 22))]⟩ (.op ⟨none, [(some 24, .nilc (.t 12))]⟩ (.op ⟨none, [(some 25, .fldA (.t 24) 1 1)]⟩ (.op ⟨none, [(none, .st (.t 25) (.t 23) 1)]⟩ .done)))))))))))))))))) [0, 3])
 c_ref12_Tree_Do_R4)))
theorem k_ref12_Tree_Do : Ok Tryz.prog 28 c_ref12_Tree_Do 64 [(3, 999999)] [.tmp 4] := Ok.mk' Tryz.func28 (by kernel_rfl) (by kernel_rfl) (by kernel_rfl)

end Go.Proofs.YtnoeabmpdjpfaaaGreatDoor.Vc

/- The document's tree: the guard. -/
set_option linter.unusedVariables false
set_option linter.unusedSimpArgs false
set_option maxRecDepth 100000
namespace Go.Proofs.YtnoeabmpdjpfaaaGreatDoor.Vc
open Go Go.Proofs

def belowV (v : Int → Option AN) : Nat → Int → Int → Bool
  | 0, _, _ => false
  | f + 1, n, a => if n = a then true else match v n with
    | none => false
    | some x => if topB n = true then false else belowV v f x.parent a
theorem belowA_V {T : PT} : ∀ (f : Nat) (n a : Int), belowA T f n a = belowV T.view f n a
  | 0, _, _ => rfl
  | f + 1, n, a => by
    unfold belowA belowV
    cases h : T.get n with
    | none => rw [PT.view_none.2 h]
    | some x =>
      rw [PT.view_get h]
      simp only
      rw [belowA_V f]
      rfl
theorem belowV_none {v : Int → Option AN} {f : Nat} {n a : Int} (h : v n = none) (ha : v a ≠ none) : belowV v f n a = false := by
  cases f with
  | zero => rfl
  | succ f =>
    rw [belowV, if_neg (fun e => ha (by rw [← e]; exact h)), h]

theorem rBelow_spec (w : World) (A m : PH) (hm : m.le w) (b : Nat) (l : List TN) (ls : List (List TN)) (h : RM A m b l ls) (hL : LOk l) (hg : VGood (viewL l)) (n a : Int) (f0 : Nat) (hf : ∀ k, LeadsN (viewL l) k n → k < f0) (hl : l.length ≤ 1099511627776) :
    Spec Tryz.prog f_ref12_Tree_Below [ptr b, .int .i64 n, .int .i64 a] PH.no w fun rs _ => rs = [.s (.bool (isL l a && belowV (viewL l) f0 n a))] := by
  refine spec_val k_ref12_Tree_Below (Qf := fun rs => rs = [.s (.bool (isL l a && belowV (viewL l) f0 n a))]) [.g (.s (ptr b)), .g (.s (.int .i64 n)), .g (.s (.int .i64 a))] (by simp) (by simp [AV.ok, GV.ok, Value.oneCell', ptr]) ?_
  obtain ⟨b2, o2, c, ts, hlts, h0, hts, _, hs0, hsi⟩ := h.look
  have hk : ∀ {l : List PH}, KN (⟨Tryz.prog, 37, w, PH.no⟩ : Ctx).u0 l m := kn_u hm
  have hfind : ∀ (w' : World) (n : Int), (⟨Tryz.prog, 37, w, PH.no⟩ : Ctx).u0.le w' → Spec Tryz.prog f_ref12_Tree_find [ptr b, .int .i64 n] PH.no w' fun rs _ => rs = [.s (.int .i64 (findL l n)), .s (.bool (isL l n))] := fun w' n hw =>
    find_spec w' A m (fun b o h => hw b o (by rw [u0_no]; exact hm b o h)) b l ls h n (by omega)
  simp (maxSteps := 2000000) only [c_ref12_Tree_Below, vc_seq, vc_rg, thenQ_n, kKeep_eq, segs_nil, segs_n, ops_nil, ops_cons, vcOp, ev, look, put_mk, keep_mk, keepL, Value.oneCell', cond_true, Nat.reduceEqDiff, Nat.reduceAdd, ↓reduceIte, reduceCtorEq, Nat.zero_add, initF, initP, Int.reduceAdd, ptr]
  refine call_is _ [.s (.int .i64 (findL l a)), .s (.bool (isL l a))] rfl rfl (fun w' vs hv hw => ?_) ?_
  · obtain ⟨vs, rfl, _, hv⟩ := argsV_g hv
    obtain ⟨vs, rfl, _, hv⟩ := argsV_g hv
    obtain rfl := argsV_nil hv
    intro _
    exact hfind w' a hw
  simp (maxSteps := 2000000) only [retS, List.getElem?_cons_zero, List.getElem?_cons_succ, vc_seq, vc_block, thenQ_n, kKeep_eq, segs_nil, ops_nil, ops_cons, vcOp, ev, look, put_mk, keep_mk, keepL, Nat.reduceEqDiff, ↓reduceIte, reduceCtorEq]
  refine vc_loop (ι := Int × Nat × Nat) (fun q => ⟨[(0, .g (.s (.pointer (some ⟨b, 0, none⟩)))), (1, .g (.s (.int .i64 (q.1)))), (2, .g (.s (.int .i64 (a)))), (8, .g (.s (.bool (isL l a))))], [], [], PH.no⟩)
    (fun q => (isL l a = true → belowV (viewL l) f0 n a = belowV (viewL l) q.2.2 q.1 a) ∧ ((viewL l q.1 = none ∧ q.2.1 = 0) ∨ ∃ k, q.2.1 = k + 1 ∧ viewL l q.1 ≠ none ∧ LeadsN (viewL l) k q.1) ∧ q.2.1 ≤ q.2.2) (fun q => q.2.1)
    (n, (if h : viewL l n = none then 0 else Classical.choose (hg.led n h) + 1), f0) ⟨fun _ => rfl, ?_, ?_⟩ (ge_of ?_ ?_ rfl rfl rfl) ?_
  · simp only
    by_cases hn : viewL l n = none
    · exact .inl ⟨hn, by rw [dif_pos hn]⟩
    · exact .inr ⟨_, by rw [dif_neg hn], hn, Classical.choose_spec (hg.led n hn)⟩
  · simp only
    split
    · omega
    · rename_i hn
      exact hf _ (Classical.choose_spec (hg.led n hn))
  · simp [frIn, look]
  · simp [pvIn, look]
  rintro ⟨x, k', f⟩ ⟨hb, hx, hkf⟩
  simp only at hb hx hkf
  generalize hQ : loopQ _ _ _ _ _ = Q
  simp (maxSteps := 2000000) only [c_ref12_Tree_Below_L0, vc_skip, vc_exit, vc_seq, vc_block, vc_rg, vc_ite, thenQ_n, thenQ_e, kKeep_eq, segs_nil, segs_n, ops_nil, ops_cons, vcOp, ev, look, put_mk, keep_mk, keepL, Nat.reduceEqDiff, ↓reduceIte, reduceCtorEq, br_t]
  refine ⟨fun his => ?_, fun hno => ?_⟩
  · have ha : viewL l a ≠ none := by rw [isL_view] at his; exact Option.isSome_iff_ne_none.1 his
    have hb := hb his
    refine call_is _ [.s (.int .i64 (findL l x)), .s (.bool (isL l x))] rfl rfl (fun w' vs hv hw => ?_) ?_
    · obtain ⟨vs, rfl, _, hv⟩ := argsV_g hv
      obtain ⟨vs, rfl, _, hv⟩ := argsV_g hv
      obtain rfl := argsV_nil hv
      intro _
      exact hfind w' x hw
    simp (maxSteps := 2000000) only [retS, List.getElem?_cons_zero, List.getElem?_cons_succ, vc_skip, vc_ret, vc_seq, vc_rg, vc_ite, thenQ_n, thenQ_r, blockQ_r, kKeep_eq, segs_nil, segs_n, ops_nil, ops_cons, vcOp, ev, look, put_mk, keep_mk, keepL, binV, binC, unV, Value.oneCell', cond_true, Nat.reduceEqDiff, ↓reduceIte, reduceCtorEq, Nat.add_zero, Bool.true_and, true_and, br_t]
    refine ⟨fun h1 => ?_, fun h1 => ⟨fun h2 => ?_, fun h2 => ?_⟩⟩
    · have hxn : viewL l x = none := by
        rw [Bool.not_eq_true', isL_view] at h1
        exact Option.isSome_eq_false_iff.1 h1 |> Option.isNone_iff_eq_none.1
      subst hQ
      simp (maxSteps := 2000000) only [thenQ_r, blockQ_r, loopQ_r, look, ↓reduceIte, finW_r, resL, resOne, ne_eq]
      rw [hb, belowV_none hxn ha, Bool.and_false]
    · have hxa : x = a := by simpa using h2
      have hk1 : 1 ≤ k' := by
        rcases hx with ⟨h3, _⟩ | ⟨k, h3, _⟩
        · rw [hxa] at h3; exact absurd h3 ha
        · omega
      obtain ⟨f', rfl⟩ : ∃ f', f = f' + 1 := ⟨f - 1, by omega⟩
      rw [belowV, if_pos hxa] at hb
      subst hQ
      simp (maxSteps := 2000000) only [thenQ_r, blockQ_r, loopQ_r, look, ↓reduceIte, finW_r, resL, resOne, ne_eq]
      rw [hb, his]; rfl
    · have hxa : x ≠ a := by simpa using h2
      rw [Bool.not_eq_false', isL_get] at h1
      obtain ⟨t, ht⟩ := Option.isSome_iff_exists.1 h1
      obtain ⟨hlt, hgd⟩ := getL_at ht
      have hvx : viewL l x = some ⟨t.parent, t.name, lookA t.attrs⟩ := by rw [viewL, ht]; rfl
      obtain ⟨k, hk', _, hled⟩ : ∃ k, k' = k + 1 ∧ viewL l x ≠ none ∧ LeadsN (viewL l) k x := by
        rcases hx with ⟨h3, _⟩ | h3
        · rw [hvx] at h3; cases h3
        · exact h3
      obtain ⟨f', rfl⟩ : ∃ f', f = f' + 1 := ⟨f - 1, by omega⟩
      rw [belowV, if_neg hxa, hvx] at hb
      simp only at hb
      refine ld_of _ (hs0 hk) rfl ?_
      simp (maxSteps := 2000000) only [ops_cons, vcOp, ev, look, put_mk, Nat.reduceEqDiff, ↓reduceIte, reduceCtorEq, Int.toNat_natCast]
      refine ⟨⟨by omega, by omega⟩, ld_of _ (seen_TN (hsi hk _ hlt)).2.1 rfl ?_⟩
      simp (maxSteps := 2000000) only [blockQ_n, kKeep_eq, segs_nil, ops_nil, ops_cons, vcOp, ev, look, put_mk, keep_mk, keepL, Nat.reduceEqDiff, ↓reduceIte, reduceCtorEq]
      have hpar : (ts.getD (findL l x) zTreeNode).parent = t.parent := by rw [(hts.at _ (by omega)).2.1, hgd]
      rw [hpar]
      cases htop : topB x with
      | true =>
        have hp0 : t.parent = 0 := (hg.top x _ hvx htop).1
        have hv0 : viewL l 0 = none := by
          cases h0 : viewL l 0 with
          | none => rfl
          | some y => have := hg.pos 0 y h0; omega
        subst hQ; simp only [loopQ_n]; refine ⟨(t.parent, 0, f'), ?_, ?_, ge_of ?_ ?_ rfl rfl rfl⟩
        · refine ⟨fun _ => ?_, .inl ⟨by simp only; rw [hp0]; exact hv0, rfl⟩, by simp only; omega⟩
          simp only
          rw [hb, if_pos htop, hp0, belowV_none hv0 ha]
        · simp only; omega
        · simp [frIn, look]
        · simp [pvIn, look]
      | false =>
        cases k with
        | zero => rw [show topB x = true from hled] at htop; cases htop
        | succ k =>
          obtain ⟨_, y, hy1, hy2⟩ := hled
          rw [hvx] at hy1
          cases hy1
          have hy2 : LeadsN (viewL l) k t.parent := hy2
          have hvp : viewL l t.parent ≠ none := by
            cases k with
            | zero =>
              rcases topB_iff.1 (show topB t.parent = true from hy2) with e | e <;> rw [e]
              · exact hg.one
              · exact hg.two
            | succ k => obtain ⟨_, z, hz, _⟩ := hy2; rw [hz]; simp
          subst hQ; simp only [loopQ_n]; refine ⟨(t.parent, k + 1, f'), ?_, ?_, ge_of ?_ ?_ rfl rfl rfl⟩
          · refine ⟨fun _ => ?_, .inr ⟨k, rfl, hvp, hy2⟩, by simp only; omega⟩
            simp only
            rw [hb, htop, if_neg (by simp)]
          · simp only; omega
          · simp [frIn, look]
          · simp [pvIn, look]
  · subst hQ
    simp (maxSteps := 2000000) only [vc_ret, vc_seq, vc_rg, thenQ_n, blockQ_e, kKeep_eq, loopQ_e, segs_nil, segs_n, ops_nil, ops_cons, vcOp, ev, look, put_mk, keep_mk, keepL, Value.oneCell', cond_true, ↓reduceIte, finW_r, resL, resOne, ne_eq]
    rw [hno]; rfl

theorem isL_has {l : List TN} {T : PT} (hv : viewL l = T.view) (n : Int) : isL l n = T.has n := by
  rw [isL_view, hv, PT.has, PT.view]
  cases T.get n <;> rfl
theorem rMay_spec (w : World) (A m : PH) (hm : m.le w) (b : Nat) (l : List TN) (ls : List (List TN)) (h : RM A m b l ls) (hL : LOk l) (T : PT) (hv : viewL l = T.view) (hg : VGood T.view) (op : Op) (hl : l.length ≤ 1099511627776) (hb : op.name.size ≤ 140737488355328) :
    Spec Tryz.prog f_ref12_Tree_May [ptr b, (gOp op).val] PH.no w fun rs _ => rs = [.s (.bool (mayA T op))] := by
  refine spec_val k_ref12_Tree_May (Qf := fun rs => rs = [.s (.bool (mayA T op))]) [.g (.s (ptr b)), .g (gOp op)] (by simp) (by simp [AV.ok, GV.ok, Value.oneCell', ptr, gOp_ok]) ?_
  have hw' : ∀ {w' : World}, (⟨Tryz.prog, 87, w, PH.no⟩ : Ctx).u0.le w' → m.le w' := fun hw b o h => hw b o (by rw [u0_no]; exact hm b o h)
  have hfind : ∀ (w' : World) (n : Int), (⟨Tryz.prog, 87, w, PH.no⟩ : Ctx).u0.le w' → Spec Tryz.prog f_ref12_Tree_find [ptr b, .int .i64 n] PH.no w' fun rs _ => rs = [.s (.int .i64 (findL l n)), .s (.bool (T.has n))] := fun w' n hw => by
    have := find_spec w' A m (hw' hw) b l ls h n (by omega)
    rw [isL_has hv] at this
    exact this
  simp (maxSteps := 2000000) only [c_ref12_Tree_May, vc_seq, vc_rg, thenQ_n, kKeep_eq, segs_nil, segs_n, ops_nil, ops_cons, vcOp, ev, look, updL, put_mk, keep_mk, keepL, GV.getT, Value.oneCell', cond_true, Nat.reduceEqDiff, ↓reduceIte, reduceCtorEq, List.nil_append, Nat.zero_add, Bool.true_and, Bool.not_false, true_and, initF, initP, getT_nil, fits_s, gOp_fld2, gOp_get2, ptr]
  refine call_is _ [.s (.int .i64 (findL l op.node)), .s (.bool (T.has op.node))] rfl rfl (fun w' vs hv hw => ?_) ?_
  · obtain ⟨vs, rfl, _, hv⟩ := argsV_g hv
    obtain ⟨vs, rfl, _, hv⟩ := argsV_g hv
    obtain rfl := argsV_nil hv
    intro _
    exact hfind w' op.node hw
  simp (maxSteps := 2000000) only [retS, List.getElem?_cons_zero, List.getElem?_cons_succ, vc_seq, vc_rg, thenQ_n, kKeep_eq, segs_nil, segs_n, ops_nil, ops_cons, vcOp, ev, look, put_mk, keep_mk, keepL, GV.getT, Nat.reduceEqDiff, ↓reduceIte, reduceCtorEq, List.nil_append, Bool.true_and, Bool.not_false, true_and, getT_nil, fits_s, gOp_fld3, gOp_get3]
  refine call_is _ [.s (.int .i64 (findL l op.parent)), .s (.bool (T.has op.parent))] rfl rfl (fun w' vs hv hw => ?_) ?_
  · obtain ⟨vs, rfl, _, hv⟩ := argsV_g hv
    obtain ⟨vs, rfl, _, hv⟩ := argsV_g hv
    obtain rfl := argsV_nil hv
    intro _
    exact hfind w' op.parent hw
  simp (maxSteps := 2000000) only [retS, List.getElem?_cons_zero, List.getElem?_cons_succ, vc_skip, vc_ret, vc_seq, vc_block, vc_rg, vc_ite, thenQ_n, thenQ_r, blockQ_n, blockQ_r, kKeep_eq, segs_nil, segs_n, segs_g, ops_nil, ops_cons, vcOp, RO.isGh, skip_mk, skipL, ev, look, put_mk, keep_mk, keepL, binV, binC, unV, GV.getT, Value.oneCell', cond_true, cond_false, Nat.reduceEqDiff, ↓reduceIte, reduceCtorEq, List.nil_append, Bool.true_and, Bool.not_true, Bool.not_false, true_and, finW_r, resL, resOne, decide_eq_true_eq, decide_eq_false_iff_not, ↓br_tt, ↓br_ft, br_t, getT_nil, fits_s, gOp_fld1, gOp_get1, gOp_fld2, gOp_get2, gOp_fld3, gOp_get3, gOp_fld4, gOp_get4, gOp_fld5, gOp_get5, gOp_fld6, gOp_get6]
  have hname : FnV Tryz.prog f_ref12_Name [.s (.string op.name)] [.s (.bool (nameB op.name))] := by
    have := ref_Name_fn op.name.data.toList (by simpa using hb)
    exact this
  refine ⟨fun k1 => ?_, fun k1 => ⟨fun k2 => ?_, fun k2 => ⟨fun k3 => ?_, fun k3 => ?_⟩⟩⟩
  · rw [beq_iff_eq] at k1
    have e : mayA T op = (decide (op.node > 2) && !T.has op.node && T.has op.parent && nameB op.name) := by rw [mayA, if_pos k1]
    rw [e]
    refine ⟨fun a1 => ⟨fun a2 => ⟨fun a3 => ?_, fun a3 => ?_⟩, fun a2 => ?_⟩, fun a1 => ?_⟩
    · refine call_fnv hname rfl rfl rfl fun _ => ?_
      simp (maxSteps := 2000000) only [retS, vc_ret, thenQ_n, thenQ_r, blockQ_r, kKeep_eq, segs_nil, segs_n, ops_nil, ops_cons, vcOp, ev, look, put_mk, keep_mk, keepL, Value.oneCell', cond_true, Nat.reduceEqDiff, ↓reduceIte, finW_r, resL, resOne, ↓br_tt]
      rw [decide_eq_true a1, a2, a3]; rfl
    · rw [a3, Bool.and_false]; rfl
    · rw [a2, Bool.and_false]; rfl
    · rw [decide_eq_false a1]; rfl
  · rw [beq_eq_false_iff_ne] at k1
    rw [beq_iff_eq] at k2
    have e : mayA T op = (T.has op.node && !topB op.node && T.has op.parent && !T.below op.parent op.node && nameB op.name) := by rw [mayA, if_neg k1, if_pos k2]
    rw [e]
    have htop : T.has op.node = true → topB op.node = decide (op.node ≤ 2) := fun hh => by
      have hpos : 0 < op.node := by
        have := has_iff.1 hh
        obtain ⟨x, hx⟩ := Option.ne_none_iff_exists'.1 this
        exact hg.pos _ _ hx
      simp only [topB]
      by_cases q1 : op.node = 1
      · simp [q1]
      · by_cases q2 : op.node = 2
        · simp [q2]
        · rw [decide_eq_false (by omega)]; simp [q1, q2]
    refine ⟨fun a1 => ⟨fun a2 => ⟨fun a3 => ?_, fun a3 => ?_⟩, fun a2 => ?_⟩, fun a1 => ?_⟩
    · have hbel : (isL l op.node && belowV (viewL l) (T.nodes.length + 1) op.parent op.node) = T.below op.parent op.node := by
        rw [isL_has hv, a1, Bool.true_and, hv, PT.below, belowA_V]
      refine call_is _ [.s (.bool (T.below op.parent op.node))] rfl rfl (fun w' vs hvv hw => ?_) ?_
      · obtain ⟨vs, rfl, _, hvv⟩ := argsV_g hvv
        obtain ⟨vs, rfl, _, hvv⟩ := argsV_g hvv
        obtain ⟨vs, rfl, _, hvv⟩ := argsV_g hvv
        obtain rfl := argsV_nil hvv
        intro _
        have := rBelow_spec w' A m (hw' hw) b l ls h hL (by rw [hv]; exact hg) op.parent op.node (T.nodes.length + 1) (fun k hk => by rw [hv] at hk; have := hk.few; omega) hl
        rw [hbel] at this
        exact this
      simp (maxSteps := 2000000) only [retS, vc_ret, thenQ_n, thenQ_r, blockQ_r, kKeep_eq, segs_nil, segs_n, segs_g, ops_nil, ops_cons, vcOp, RO.isGh, skip_mk, skipL, ev, look, put_mk, keep_mk, keepL, unV, GV.getT, Value.oneCell', cond_true, cond_false, Nat.reduceEqDiff, ↓reduceIte, reduceCtorEq, List.nil_append, Bool.true_and, Bool.not_true, Bool.not_false, true_and, finW_r, resL, resOne, ↓br_tt, ↓br_ft, br_t, getT_nil, fits_s, gOp_fld4, gOp_get4]
      rw [htop a1, decide_eq_false (show ¬ op.node ≤ 2 by omega), a1, a3]
      refine ⟨fun a4 => ?_, fun a4 => by rw [a4]; rfl⟩
      refine call_fnv hname rfl rfl rfl fun _ => ?_
      simp (maxSteps := 2000000) only [retS, vc_ret, thenQ_n, thenQ_r, blockQ_r, kKeep_eq, segs_nil, segs_n, ops_nil, ops_cons, vcOp, ev, look, put_mk, keep_mk, keepL, Value.oneCell', cond_true, Nat.reduceEqDiff, ↓reduceIte, Bool.and_true, Bool.true_and, Bool.not_false, true_and, and_true, finW_r, resL, resOne, ↓br_tt]
      rw [a4]; rfl
    · rw [a3, Bool.and_false]; rfl
    · rw [htop a1, decide_eq_true (show op.node ≤ 2 by omega), Bool.not_true, Bool.and_false]; rfl
    · rw [a1]; rfl
  · rw [beq_eq_false_iff_ne] at k1 k2
    rw [beq_iff_eq] at k3
    have e : mayA T op = (T.has op.node && pairB op.key op.value) := by rw [mayA, if_neg k1, if_neg k2, if_pos k3]
    rw [e]
    have hpr : pairB op.key op.value = (!decide (op.key = ⟨#[]⟩) && decide (op.key.size ≤ 255) && decide (op.value.size ≤ 255)) := rfl
    refine ⟨fun a1 => ⟨fun a2 => ⟨fun a3 => ?_, fun a3 => ?_⟩, fun a2 => ?_⟩, fun a1 => by rw [a1]; rfl⟩
    · rw [a1, hpr, a2, decide_eq_true (show op.key.size ≤ 255 by omega)]
      simp
      omega
    · rw [a1, hpr, decide_eq_false (show ¬ op.key.size ≤ 255 by omega)]
      simp
    · rw [hpr, a2]; simp
  · rw [beq_eq_false_iff_ne] at k1 k2 k3
    rw [mayA, if_neg k1, if_neg k2, if_neg k3]
end Go.Proofs.YtnoeabmpdjpfaaaGreatDoor.Vc

/- The document's tree: an operation done. -/
set_option linter.unusedVariables false
set_option linter.unusedSimpArgs false
set_option maxRecDepth 100000
namespace Go.Proofs.YtnoeabmpdjpfaaaGreatDoor.Vc
open Go Go.Proofs

theorem uni_lc {a b c : PH} (h : dis a b) : uni a (uni b c) = uni b (uni a c) := by rw [← uni_assoc, uni_comm h, uni_assoc]
theorem one_upd' (r : Nat) (a b : Obj) : (one r a).upd r b = one r b := by
  funext j
  by_cases h : j = r
  · subst h; simp [PH.upd, one]
  · simp [PH.upd, one, h]
def opX (l : List TN) (op : Op) : TN := (getL l op.node).getD ⟨op.node, 0, ⟨#[]⟩, []⟩
def opN (l : List TN) (op : Op) : TN := if op.kind = 3 then { opX l op with attrs := setL (opX l op).attrs op.key op.value } else { opX l op with parent := op.parent, name := op.name }
def doL (l : List TN) (op : Op) : List TN := putL l (opN l op)

theorem rDo_spec (w : World) (m : PH) (b : Nat) (l : List TN) (ls : List (List TN)) (h : RC m b l ls) (hL : LOk l) (T : PT) (hv : viewL l = T.view) (hg : VGood T.view) (op : Op) (hb : op.name.size ≤ 140737488355328) (hl : l.length ≤ 549755813888) (hls : ls.length ≤ 1099511627776) (ha : ∀ t ∈ l, t.attrs.length ≤ 549755813888) :
    Spec Tryz.prog f_ref12_Tree_Do [ptr b, (gOp op).val] m w fun rs m' => (mayA T op = false → rs = [.s (.bool false)] ∧ RC m' b l ls) ∧ (mayA T op = true → rs = [.s (.bool true)] ∧ RC m' b (doL l op) (ls ++ [l])) := by
  refine spec_of k_ref12_Tree_Do [.g (.s (ptr b)), .g (gOp op)] (by simp) (by simp [AV.ok, GV.ok, Value.oneCell', ptr, gOp_ok]) ?_
  simp (maxSteps := 2000000) only [c_ref12_Tree_Do, vc_seq, vc_rg, thenQ_n, kKeep_eq, segs_nil, segs_n, ops_nil, ops_cons, vcOp, ev, look, updL, put_mk, keep_mk, keepL, Value.oneCell', cond_true, Nat.reduceEqDiff, ↓reduceIte, reduceCtorEq, Nat.zero_add, Bool.true_and, true_and, initF, initP, getT_nil, gOp_fits, ptr]
  refine call_ism _ [.s (.bool (mayA T op))] rfl rfl (fun w' vs hvv _ _ hm => ?_) ?_
  · obtain ⟨vs, rfl, _, hvv⟩ := argsV_g hvv
    obtain ⟨vs, rfl, _, hvv⟩ := argsV_g hvv
    obtain rfl := argsV_nil hvv
    obtain ⟨m1, A, rfl, hd, hR⟩ := h
    exact rMay_spec w' A m1 (fun b o q => hm b o (sub_uni_l _ _ b o q)) b l ls hR hL T hv hg op (by omega) hb
  simp (maxSteps := 2000000) only [retS, vc_skip, vc_ret, vc_seq, vc_rg, vc_rga, vc_ite, thenQ_n, thenQ_r, kKeep_eq, finQ_r, segs_nil, segs_n, ops_nil, ops_cons, ot_op, ot_or, vcOp, ev, look, put_mk, keep_mk, keepL, unV, Value.oneCell', cond_true, Nat.reduceEqDiff, ↓reduceIte, reduceCtorEq, Nat.zero_add, Nat.add_zero, br_t]
  cases hmay : mayA T op with
  | false =>
    simp (maxSteps := 2000000) only [Bool.and_true, Bool.not_false, and_true, true_imp_iff, false_imp_iff, Bool.true_eq_false, Bool.false_eq_true]
    exact fin_m m rfl (fun _ _ h => h) ⟨rfl, h⟩
  | true =>
    simp (maxSteps := 2000000) only [Bool.true_and, Bool.not_true, true_and, true_imp_iff, false_imp_iff, Bool.true_eq_false, Bool.false_eq_true]
    have tail4 : ∀ m2 : PH, RC m2 b l (ls ++ [l]) → ∀ σ : SS, Ge σ ⟨[(0, .g (.s (.pointer (some ⟨b, 0, none⟩)))), (3, .ref 3 [])], [(3, .box (gOp op))], [], m2⟩ →
        vc ⟨Tryz.prog, 64, w, m⟩ c_ref12_Tree_Do_R4 (finQ ⟨Tryz.prog, 64, w, m⟩ [.tmp 4] fun rs m' => rs = [.s (.bool true)] ∧ RC m' b (doL l op) (ls ++ [l])) σ := by
      intro m2 hR2 σ hσ
      obtain ⟨m1, A, rfl, hd, hR⟩ := hR2
      have hxn : (opX l op).node = op.node := by
        unfold opX
        cases hgl : getL l op.node with
        | none => rfl
        | some x => exact ((getL_mem hL.sorted).1 hgl).2
      have tail12 : ∀ (A2 : PH) (t1 : TreeNode), dis m1 A2 → RM A2 m1 b l (ls ++ [l]) → t1.node = (opN l op).node ∧ t1.parent = (opN l op).parent ∧ t1.name = (opN l op).name ∧ SlR A2 t1.attrs 2 ((opN l op).attrs.map gAttr) → ∀ σ : SS, Ge σ ⟨[(0, .g (.s (.pointer (some ⟨b, 0, none⟩)))), (5, .ref 5 [])], [(5, .box (gTreeNode t1))], [], uni m1 A2⟩ →
          vc ⟨Tryz.prog, 64, w, m⟩ c_ref12_Tree_Do_R12 (finQ ⟨Tryz.prog, 64, w, m⟩ [.tmp 4] fun rs m' => rs = [.s (.bool true)] ∧ RC m' b (doL l op) (ls ++ [l])) σ := by
        intro A2 t1 hd2 hRM ht1 σ hσ
        unfold c_ref12_Tree_Do_R12
        rw [vc_seq]
        refine vc_gh_of_ge hσ ?_
        simp (maxSteps := 2000000) only [vc_rg, segs_n, ops_cons, vcOp, ev, look, put_mk, Nat.reduceEqDiff, ↓reduceIte, reduceCtorEq, Bool.true_and, true_and, getT_nil, gTreeNode_fits]
        refine call_with m1 A2 (dOk_spec rfl) rfl rfl hd2 (Q := fun rs m' => rs = [] ∧ RM A2 m' b (putL l (opN l op)) (ls ++ [l])) (fun w' vs hvv _ _ => ?_) fun rs m4 _ hq hd4 => ?_
        · obtain ⟨vs, rfl, _, hvv⟩ := argsV_g hvv
          obtain ⟨vs, rfl, _, hvv⟩ := argsV_g hvv
          obtain rfl := argsV_nil hvv
          exact rput_spec w' A2 m1 b l (ls ++ [l]) hRM t1 (opN l op) ht1 (by omega)
        obtain ⟨rfl, h4⟩ := hq
        simp (maxSteps := 2000000) only [retS, vc_ret, vc_seq, vc_rg, thenQ_n, kKeep_eq, finQ_r, segs_nil, segs_n, ops_nil, ops_cons, vcOp, ev, look, put_mk, keep_mk, keepL, Value.oneCell', cond_true, ↓reduceIte]
        exact fin_m _ rfl (fun _ _ h => h) ⟨rfl, m4, A2, rfl, hd4, h4⟩
      have tail8 : ∀ t0 : TreeNode, t0.node = (opX l op).node ∧ t0.parent = (opX l op).parent ∧ t0.name = (opX l op).name ∧ SlR A t0.attrs 2 ((opX l op).attrs.map gAttr) → ∀ σ : SS, Ge σ ⟨[(0, .g (.s (.pointer (some ⟨b, 0, none⟩)))), (3, .ref 3 []), (5, .ref 5 [])], [(3, .box (gOp op)), (5, .box (gTreeNode t0))], [], uni m1 A⟩ →
          vc ⟨Tryz.prog, 64, w, m⟩ c_ref12_Tree_Do_R8 (finQ ⟨Tryz.prog, 64, w, m⟩ [.tmp 4] fun rs m' => rs = [.s (.bool true)] ∧ RC m' b (doL l op) (ls ++ [l])) σ := by
        intro t0 ht0 σ hσ
        unfold c_ref12_Tree_Do_R8
        rw [vc_seq, vc_seq]
        refine vc_gh_of_ge hσ ?_
        simp (maxSteps := 2000000) only [vc_seq, vc_rg, vc_ite, thenQ_n, kKeep_eq, segs_nil, segs_n, ops_nil, ops_cons, vcOp, ev, look, updL, put_mk, put_mk0, keep_mk, keepL, binV, binC, GV.getT, GV.sz, GV.same, Value.oneCell', cond_true, Nat.reduceEqDiff, ↓reduceIte, reduceCtorEq, List.nil_append, Bool.and_true, Bool.true_and, Bool.not_false, true_and, and_true, br_t, same_int, getT_nil, fits_s, gOp_fld1, gOp_get1, gOp_fld3, gOp_get3, gOp_fld4, gOp_get4, gOp_fld5, gOp_get5, gOp_fld6, gOp_get6, gTreeNode_fld1, gTreeNode_get1, gTreeNode_set1, gTreeNode_fld2, gTreeNode_get2, gTreeNode_set2, gTreeNode_fld3, gTreeNode_get3]
        refine ⟨fun k3 => ?_, fun k3 => ?_⟩
        · rw [beq_iff_eq] at k3
          have hal : (opX l op).attrs.length ≤ 549755813888 := by
            unfold opX
            cases hgl : getL l op.node with
            | none => simp
            | some x => exact ha x ((getL_mem hL.sorted).1 hgl).1
          refine call_ownm rfl rfl (Q := fun rs m' => ∃ v', rs = [.s v'] ∧ SlO m' v' 55 2 ((setL (opX l op).attrs op.key op.value).map gAttr)) (fun w' vs hvv _ _ hm => ?_) fun rs ms _ hq hds => ?_
          · obtain ⟨vs, rfl, _, hvv⟩ := argsV_g hvv
            obtain ⟨vs, rfl, _, hvv⟩ := argsV_g hvv
            obtain ⟨vs, rfl, _, hvv⟩ := argsV_g hvv
            obtain rfl := argsV_nil hvv
            exact set_spec w' t0.attrs (opX l op).attrs op.key op.value A (fun b o q => hm b o (sub_uni_r hd b o q)) ht0.2.2.2 (by omega)
          obtain ⟨v', rfl, hs'⟩ := hq
          simp (maxSteps := 2000000) only [retS, thenQ_n, kKeep_eq, segs_nil, ops_nil, ops_cons, vcOp, ev, look, updL, put_mk, put_mk0, keep_mk, keepL, GV.getT, GV.sz, GV.same, Nat.reduceEqDiff, ↓reduceIte, reduceCtorEq, List.nil_append, Bool.and_true, Bool.true_and, true_and, and_true, getT_nil, gTreeNode_fld3, gTreeNode_get3, gTreeNode_set3]
          obtain ⟨hds1, hds2⟩ := dis_of_uni_r hds
          refine tail12 (uni ms A) { t0 with attrs := v' } (dis_uni_r (dis_comm hds1) hd) (hR.up (sub_uni_r hds2)) ?_ _ (ge_of (by simp [frIn, look]) (by simp [pvIn, look]) rfl rfl (by show uni m1 (uni ms A) = uni ms (uni m1 A); rw [uni_lc hds1]))
          unfold opN
          rw [if_pos k3]
          exact ⟨ht0.1, ht0.2.1, ht0.2.2.1, hs'.toR.up (sub_uni_l _ _)⟩
        · rw [beq_eq_false_iff_ne] at k3
          refine tail12 A { t0 with parent := op.parent, name := op.name } hd hR ?_ _ (ge_of (by simp [frIn, look]) (by simp [pvIn, look]) rfl rfl rfl)
          unfold opN
          rw [if_neg k3]
          exact ⟨ht0.1, rfl, rfl, ht0.2.2.2⟩
      unfold c_ref12_Tree_Do_R4
      rw [vc_seq]
      refine vc_gh_of_ge hσ ?_
      simp (maxSteps := 2000000) only [vc_seq, vc_rg, thenQ_n, kKeep_eq, segs_nil, segs_n, ops_nil, ops_cons, vcOp, ev, evL, gvL, look, updL, put_mk, put_mk0, keep_mk, keepL, GV.getT, Nat.reduceEqDiff, ↓reduceIte, reduceCtorEq, List.nil_append, Bool.and_true, Bool.true_and, Bool.not_false, true_and, and_true, List.map_cons, List.map_nil, Option.map_some, GV.bldT, GV.bldC, same_int, getT_nil, setT_nil, fits_s, gOp_fld2, gOp_get2, gTreeNode_sz, gTreeNode_same, gTreeNode_get0, gTreeNode_set0, gTreeNode_zero]
      refine ⟨rfl, ?_⟩
      refine call_ism _ [.s (.int .i64 (findL l op.node)), .s (.bool (isL l op.node))] rfl rfl (fun w' vs hvv _ _ hm => ?_) ?_
      · obtain ⟨vs, rfl, _, hvv⟩ := argsV_g hvv
        obtain ⟨vs, rfl, _, hvv⟩ := argsV_g hvv
        obtain rfl := argsV_nil hvv
        exact find_spec w' A m1 (fun b o q => hm b o (sub_uni_l _ _ b o q)) b l _ hR op.node (by omega)
      simp (maxSteps := 2000000) only [retS, List.getElem?_cons_zero, List.getElem?_cons_succ, vc_skip, vc_seq, vc_rg, vc_ite, thenQ_n, kKeep_eq, segs_nil, segs_n, ops_nil, ops_cons, vcOp, ev, look, put_mk, keep_mk, keepL, Nat.reduceEqDiff, ↓reduceIte, reduceCtorEq, Nat.add_zero, br_t]
      obtain ⟨b2, o2, c, ts, hlts, h0, hts, _, hs0, hsi⟩ := hR.look
      have hk1 : ∀ {C : Ctx}, KN C.u0 [uni m1 A] m1 := fun {C} j o q => .inr ⟨uni m1 A, by simp, sub_uni_l _ _ j o q⟩
      refine ⟨fun his => ?_, fun hno => ?_⟩
      · rw [isL_get] at his
        obtain ⟨x, hx⟩ := Option.isSome_iff_exists.1 his
        obtain ⟨hlt, hgd⟩ := getL_at hx
        have hxe : opX l op = x := by unfold opX; rw [hx]; rfl
        refine ld_of _ (hs0 hk1) rfl ?_
        simp (maxSteps := 2000000) only [ops_cons, vcOp, ev, look, put_mk, Nat.reduceEqDiff, ↓reduceIte, reduceCtorEq, Int.toNat_natCast]
        refine ⟨⟨by omega, by omega⟩, ld_of _ (hsi hk1 _ hlt) (gTreeNode_fits _) ?_⟩
        simp (maxSteps := 2000000) only [thenQ_n, kKeep_eq, segs_nil, ops_nil, ops_cons, vcOp, ev, look, updL, put_mk, put_mk0, keep_mk, keepL, Nat.reduceEqDiff, ↓reduceIte, reduceCtorEq, Bool.and_true, Bool.true_and, true_and, and_true, getT_nil, setT_nil, gTreeNode_sz, gTreeNode_same]
        refine tail8 (ts.getD (findL l op.node) zTreeNode) ?_ _ (ge_of (by simp [frIn, look]) (by simp [pvIn, look]) rfl rfl rfl)
        have := hts.at (findL l op.node) (by omega)
        rw [hgd] at this
        rw [hxe]; exact this
      · rw [isL_get] at hno
        have hx : getL l op.node = none := Option.isNone_iff_eq_none.1 (by rw [← Option.not_isSome, hno]; rfl)
        refine tail8 ⟨op.node, 0, ⟨#[]⟩, .slice none 0 0⟩ ?_ _ (ge_of (by simp [frIn, look]) (by simp [pvIn, look]; rfl) rfl rfl rfl)
        unfold opX
        rw [hx]
        exact ⟨rfl, rfl, rfl, SlR.nil _ _⟩
    obtain ⟨m1, A, rfl, hd, hR⟩ := h
    obtain ⟨nv, wv, e, mn, mw, mo, ts, vs, rfl, p⟩ := hR
    have hlts := p.told.len
    have hvls := p.olds.len
    obtain ⟨d1, d2, d3, hrows, htold, hne, hwas, holds⟩ := p
    generalize hc : one b (.cells #[nv, wv] e (0, 0)) = oc at *
    obtain ⟨d1n, d1r⟩ := dis_of_uni_r d1
    obtain ⟨d1w, d1o⟩ := dis_of_uni_r d1r
    obtain ⟨d2w, d2o⟩ := dis_of_uni_r d2
    obtain ⟨dAc, dAr⟩ := dis_of_uni_r (dis_comm hd)
    obtain ⟨dAn, dAr⟩ := dis_of_uni_r dAr
    obtain ⟨dAw, dAo⟩ := dis_of_uni_r dAr
    have hoc : oc b = some (.cells #[nv, wv] e (0, 0)) := by rw [← hc]; exact one_self _ _
    have sc0 : PH.sub oc (uni (uni oc (uni mn (uni mw mo))) A) := PH.sub_trans (sub_uni_l _ _) (sub_uni_l _ _)
    have nv1 : nv.oneCell' = true := by rcases hrows.2 with ⟨rfl, _⟩ | ⟨ad, c, rfl, _⟩ <;> rfl
    have wv1 : wv.oneCell' = true := by rcases hwas.2 with ⟨rfl, _⟩ | ⟨ad, c, rfl, _⟩ <;> rfl
    have seen : ∀ {C : Ctx} {m' : PH}, PH.sub oc m' → Seen C [] m' b 0 (.s nv) ∧ Seen C [] m' b 1 (.s wv) := fun {C m'} hs =>
      ⟨seen_cell (u := oc) (fun j o h => .inr ⟨m', by simp, hs j o h⟩) hoc rfl nv1, seen_cell (u := oc) (fun j o h => .inr ⟨m', by simp, hs j o h⟩) hoc rfl wv1⟩
    have hclone : ∀ w' : World, (uni (uni oc (uni mn (uni mw mo))) A).le w' → Spec Tryz.prog f_ref12_clone [nv] PH.no w' fun rs m' => ∃ v mc ma ts', rs = [.s v] ∧ m' = uni mc ma ∧ dis mc ma ∧ SlO mc v 32 4 (ts'.map gTreeNode) ∧ TsOk ma ts' l := fun w' hm => by
      have s1 : PH.sub mn w'.ph := fun b o q => hm b o (sub_uni_l _ _ _ _ (sub_uni_r d1 _ _ (sub_uni_l _ _ b o q)))
      have s2 : PH.sub A w'.ph := fun b o q => hm b o (sub_uni_r hd b o q)
      exact clone_spec w' nv ts l w'.ph (fun _ _ h => h) (hrows.toR.up s1) (htold.up s2) (by omega) fun t ht => by have := ha t ht; omega
    -- the memory, the list of what was taken out of it
    have out : ∀ (mc ma : PH), dis (uni mc ma) (uni (uni oc (uni mn (uni mw mo))) A) → uni (uni mc ma) (uni (uni oc (uni mn (uni mw mo))) A) = uni mw (uni (uni mc ma) (uni (uni oc (uni mn mo)) A)) ∧ dis mw (uni (uni mc ma) (uni (uni oc (uni mn mo)) A)) := by
      intro mc ma hX
      obtain ⟨hX1, hXA⟩ := dis_of_uni_r hX
      obtain ⟨hXc, hX2⟩ := dis_of_uni_r hX1
      obtain ⟨hXn, hX3⟩ := dis_of_uni_r hX2
      obtain ⟨hXw, hXo⟩ := dis_of_uni_r hX3
      refine ⟨?_, dis_uni_r (dis_comm hXw) (dis_uni_r (dis_uni_r (dis_comm d1w) (dis_uni_r (dis_comm d2w) d3)) (dis_comm dAw))⟩
      rw [uni_lc d2w, uni_lc d1w, uni_assoc mw, uni_lc hXw]
    have close : ∀ (mc ma u' : PH) (v v' : Value) (ts' : List TreeNode), dis (uni mc ma) (uni (uni oc (uni mn (uni mw mo))) A) → dis mc ma → SlO mc v 32 4 (ts'.map gTreeNode) → TsOk ma ts' l → SlO u' v' 28 1 (vs.map GV.s ++ [.s v]) → dis u' (uni (uni mc ma) (uni (uni oc (uni mn mo)) A)) →
        (uni u' (uni (uni mc ma) (uni (uni oc (uni mn mo)) A))) b = some (.cells #[nv, wv] e (0, 0)) ∧ RC ((uni u' (uni (uni mc ma) (uni (uni oc (uni mn mo)) A))).upd b (.cells #[nv, v'] e (0, 0))) b l (ls ++ [l]) := by
      intro mc ma u' v v' ts' hX hcm hs1 hs2 hs3 hU
      obtain ⟨hX1, hXA⟩ := dis_of_uni_r hX
      obtain ⟨hXc, hX2⟩ := dis_of_uni_r hX1
      obtain ⟨hXn, hX3⟩ := dis_of_uni_r hX2
      obtain ⟨hXw, hXo⟩ := dis_of_uni_r hX3
      obtain ⟨cc, ca⟩ := dis_of_uni_r (dis_comm hXc)
      obtain ⟨nc, na⟩ := dis_of_uni_r (dis_comm hXn)
      obtain ⟨oc', oa⟩ := dis_of_uni_r (dis_comm hXo)
      obtain ⟨Ac, Aa⟩ := dis_of_uni_r (dis_comm hXA)
      obtain ⟨hU1, hU2⟩ := dis_of_uni_r hU
      obtain ⟨hUc, hUa⟩ := dis_of_uni_r hU1
      obtain ⟨hU3, hUA⟩ := dis_of_uni_r hU2
      obtain ⟨hUo, hU4⟩ := dis_of_uni_r hU3
      obtain ⟨hUn, hUm⟩ := dis_of_uni_r hU4
      have hub : u' b = none := (hUo b).resolve_right (by rw [hoc]; simp)
      have hxb : (uni mc ma) b = none := (hXc b).resolve_right (by rw [hoc]; simp)
      refine ⟨by simp only [uni] at hxb ⊢; rw [hub, Option.none_or, hxb, Option.none_or, hoc]; rfl, ?_⟩
      rw [uni_upd hub, uni_upd hxb, uni_upd_l, uni_upd_l]
      have hoc2 : oc.upd b (.cells #[nv, v'] e (0, 0)) = one b (.cells #[nv, v'] e (0, 0)) := by rw [← hc, one_upd']
      rw [hoc2]
      have dn : ∀ {x : PH}, dis oc x → dis (one b (.cells #[nv, v'] e (0, 0))) x := fun hx => by rw [← hc] at hx; exact dis_one_of hx
      have v1 : v.oneCell' = true := by rcases hs1.2 with ⟨rfl, _⟩ | ⟨ad, c, rfl, _⟩ <;> rfl
      have hsubA : PH.sub A (uni ma A) := sub_uni_r (dis_comm Aa)
      refine ⟨uni (one b (.cells #[nv, v'] e (0, 0))) (uni mn (uni u' (uni mo mc))), uni ma A, ?_, ?_, nv, v', e, mn, u', uni mo mc, ts, vs ++ [v], rfl, ⟨?_, ?_, ?_, hrows, htold.up hsubA, hne, ?_, ?_⟩⟩
      · simp only [uni_assoc]
        rw [uni_lc (dis_comm (dn ca)), uni_lc (dis_comm (dn cc)), uni_lc (dis_comm (dn (dis_comm hUo))), uni_lc (dis_comm na), uni_lc (dis_comm nc), uni_lc hUn, uni_lc (dis_comm oa), uni_lc (dis_comm oc')]
      · refine dis_uni_l (dis_uni_r (dn ca) (dn (dis_comm dAc))) (dis_uni_l (dis_uni_r na (dis_comm dAn)) (dis_uni_l (dis_uni_r hUa hUA) (dis_uni_l (dis_uni_r oa (dis_comm dAo)) (dis_uni_r hcm (dis_comm Ac)))))
      · exact dis_uni_r (dn d1n) (dis_uni_r (dn (dis_comm hUo)) (dis_uni_r (dn d1o) (dn cc)))
      · exact dis_uni_r (dis_comm hUn) (dis_uni_r d2o nc)
      · exact dis_uni_r hUm hUc
      · rw [List.map_append]; exact hs3
      · exact (holds.up hsubA).snoc v1 hs1 (hs2.up (sub_uni_l _ _)) hne (dis_comm oc')
    repeat' (first
      | (refine ld_of _ (seen sc0).1 rfl ?_; simp (maxSteps := 2000000) only [segs_nil, segs_n, ops_nil, ops_cons, ot_op, ot_or, vcOp, ev, look, put_mk, Nat.reduceEqDiff, ↓reduceIte])
      | (refine ld_of _ (seen sc0).2 rfl ?_; simp (maxSteps := 2000000) only [segs_nil, segs_n, ops_nil, ops_cons, ot_op, vcOp, ev, look, put_mk, Nat.reduceEqDiff, ↓reduceIte])
      | (refine ld_of _ (seen (PH.sub_trans sc0 (sub_uni_r hdX))).2 rfl ?_; simp (maxSteps := 2000000) only [segs_nil, segs_n, ops_nil, ops_cons, ot_op, vcOp, ev, evL, gvL, look, updL, put_mk, rowE, GV.sz, Nat.reduceEqDiff, ↓reduceIte, Nat.zero_add, Bool.and_true, Bool.true_and, true_and, and_true, Option.map_some, szAll, List.length_cons, List.length_nil, List.drop_zero, List.take_succ_cons, List.take_zero])
      | (refine call_ownm rfl rfl (Q := fun rs m' => ∃ v mc ma ts', rs = [.s v] ∧ m' = uni mc ma ∧ dis mc ma ∧ SlO mc v 32 4 (ts'.map gTreeNode) ∧ TsOk ma ts' l) (fun w' vs hv hw _ hm => by obtain ⟨vs, rfl, _, hv⟩ := argsV_g hv; obtain rfl := argsV_nil hv; exact hclone w' hm) fun rs mX _ hq hdX => ?_; obtain ⟨v, mc, ma, ts', rfl, rfl, hcm, hs1, hs2⟩ := hq; simp (maxSteps := 2000000) only [retS, segs_nil, segs_n, ops_nil, ops_cons, ot_op, ot_or, vcOp, ev, evL, gvL, look, updL, put_mk, rowE, GV.sz, Nat.reduceEqDiff, ↓reduceIte, Nat.zero_add, Bool.and_true, Bool.true_and, true_and, and_true, Option.map_some, szAll, List.length_cons, List.length_nil, List.drop_zero, List.take_succ_cons, List.take_zero])
      | refine And.intro ?_ ?_)
    all_goals
      obtain ⟨o1, o2⟩ := out mc ma hdX
      refine app_of rfl rfl mw (uni (uni mc ma) (uni (uni oc (uni mn mo)) A)) (vs.map GV.s) hwas o1 o2 (by simp only [List.length_map, List.length_cons, List.length_nil]; omega) fun v' u' hv' hs' hd' => ?_
      simp (maxSteps := 2000000) only [segs_nil, segs_n, ops_nil, ops_cons, ot_op, vcOp, ev, look, put_mk, Nat.reduceEqDiff, ↓reduceIte, Nat.zero_add]
      obtain ⟨c1, c2⟩ := close mc ma u' v v' ts' hdX hcm hs1 hs2 hs' hd'
      refine st_of rfl #[nv, wv] e ⟨c1, by simp⟩ ?_
      simp (maxSteps := 2000000) only [thenQ_n, kKeep_eq, segs_nil, ops_nil, ot_done, look, put_mk0, keep_mk, keepL, Nat.reduceEqDiff, ↓reduceIte, reduceCtorEq]
      exact tail4 _ c2 _ (ge_of (by simp [frIn, look]) (by simp [pvIn, look]) rfl rfl rfl)
end Go.Proofs.YtnoeabmpdjpfaaaGreatDoor.Vc

/- The document's lists: what was done is seen; a tree of rows: plain. -/
set_option linter.unusedVariables false
set_option linter.unusedSimpArgs false
namespace Go.Proofs.YtnoeabmpdjpfaaaGreatDoor.Vc
open Go

theorem doL_view {l : List TN} {T : PT} {op : Op} {k : Nat} (hL : LOk l) (hv : viewL l = T.view) (hok : T.ok k) (hg : VGood T.view) (hm : mayA T op = true) : LOk (doL l op) ∧ viewL (doL l op) = (T.does op).view := by
  by_cases k1 : op.kind = 1
  · obtain ⟨hn, _⟩ := may_make hm k1
    have hx : getL l op.node = none := by
      have : viewL l op.node = none := by rw [hv]; exact PT.view_none.2 hn
      unfold viewL at this
      cases hg : getL l op.node with
      | none => rfl
      | some x => rw [hg] at this; cases this
    have hN : opN l op = ⟨op.node, op.parent, op.name, []⟩ := by unfold opN opX; rw [if_neg (by omega), hx]; rfl
    obtain ⟨h1, h2⟩ := hL.put (a := opN l op) (by rw [hN]; rfl)
    refine ⟨h1, ?_⟩
    show viewL (putL l (opN l op)) = _
    rw [h2, hN, does_view1 hm k1, hv]
    rfl
  · obtain ⟨x, hx⟩ := may_there hm k1
    have hvn : viewL l op.node = some x.view := by rw [hv]; exact PT.view_get hx
    obtain ⟨t, ht⟩ : ∃ t, getL l op.node = some t := by
      unfold viewL at hvn
      cases hg : getL l op.node with
      | none => rw [hg] at hvn; cases hvn
      | some t => exact ⟨t, rfl⟩
    obtain ⟨hm1, hm2⟩ := (getL_mem hL.sorted).1 ht
    have hta := hL.attrs t hm1
    have hX : opX l op = t := by unfold opX; rw [ht]; rfl
    rw [viewL, ht] at hvn
    simp only [Option.map_some, Option.some.injEq, PN.view, AN.mk.injEq] at hvn
    obtain ⟨q1, q2, q3⟩ := hvn
    by_cases k2 : op.kind = 2
    · have hN : opN l op = { t with parent := op.parent, name := op.name } := by unfold opN; rw [if_neg (by omega), hX]
      obtain ⟨h1, h2⟩ := hL.put (a := opN l op) (by rw [hN]; exact hta)
      refine ⟨h1, ?_⟩
      show viewL (putL l (opN l op)) = _
      rw [h2, hN, does_view2 hx k2, hv]
      simp only
      rw [hm2, q3]
    · have k3 : op.kind = 3 := by
        rw [mayA, if_neg k1, if_neg k2] at hm
        split at hm
        · assumption
        · cases hm
      have hp : pairB op.key op.value = true := by
        rw [mayA, if_neg k1, if_neg k2, if_pos k3] at hm
        simp only [Bool.and_eq_true] at hm; exact hm.2
      have hkey : (⟨#[]⟩ : ByteArray).data.toList < op.key.data.toList := by
        have : op.key ≠ ⟨#[]⟩ := fun e => by rw [e] at hp; simp [pairB] at hp
        cases hk : op.key.data.toList with
        | nil => exact absurd (ByteArray.ext (Array.toList_inj.1 hk)) this
        | cons a l => simp
      have hN : opN l op = { t with attrs := setL t.attrs op.key op.value } := by unfold opN; rw [if_pos k3, hX]
      have hok' := setL_ok hp _ _ hta hkey
      obtain ⟨h1, h2⟩ := hL.put (a := opN l op) (by rw [hN]; exact hok')
      refine ⟨h1, ?_⟩
      show viewL (putL l (opN l op)) = _
      rw [h2, hN, does_view3 hx (hok.attrs _ _ hx).1 k1 k2, hv]
      simp only
      rw [hm2, q1, q2]
      congr 3
      funext j
      rw [setL, setL_look _ _ hta j, q3]

/-! ### A tree of rows -/
def okR : Int → List TN → Bool
  | _, [] => true
  | last, r :: l => rowA last r && attrsA ⟨#[]⟩ r.attrs && okR r.node l
theorem rowsA_okR : ∀ {l : List TN} {T : PT} {last : Int}, (∃ T', rowsA T last l = some T') ↔ okR last l = true
  | [], T, last => ⟨fun _ => rfl, fun _ => ⟨T, rfl⟩⟩
  | r :: l, T, last => by
    rw [rowsA, okR]
    cases hb : rowA last r && attrsA ⟨#[]⟩ r.attrs with
    | false => simp
    | true => rw [if_pos rfl, Bool.true_and]; exact rowsA_okR
theorem fromA_iff {l : List TN} : fromA l ↔ okR 0 l = true ∧ ∀ n, viewOf l n ≠ none → ∃ k, LeadsN (viewOf l) k n := by
  unfold fromA
  constructor
  · rintro ⟨T, h1, h2⟩
    have hv := (rowsA_rowed h1).view
    refine ⟨rowsA_okR.1 ⟨T, h1⟩, ?_⟩
    rw [← hv]; exact h2
  · rintro ⟨h1, h2⟩
    obtain ⟨T, hT⟩ := rowsA_okR (T := T0).2 h1
    refine ⟨T, hT, ?_⟩
    have hv := (rowsA_rowed hT).view
    unfold PT.led
    rw [hv]; exact h2
theorem okR_each : ∀ {l : List TN} {last : Int}, okR last l = true → l.Pairwise (fun a b => a.node < b.node) ∧ ∀ r ∈ l, last < r.node ∧ attrsA ⟨#[]⟩ r.attrs = true
  | [], _, _ => ⟨List.Pairwise.nil, by simp⟩
  | r :: l, last, h => by
    rw [okR, Bool.and_eq_true, Bool.and_eq_true] at h
    obtain ⟨⟨h1, h2⟩, h3⟩ := h
    have hl := rowA_last h1
    obtain ⟨i1, i2⟩ := okR_each h3
    refine ⟨List.pairwise_cons.2 ⟨fun q hq => (i2 q hq).1, i1⟩, fun q hq => ?_⟩
    rcases List.mem_cons.1 hq with rfl | hq
    · exact ⟨hl, h2⟩
    · obtain ⟨j1, j2⟩ := i2 q hq
      exact ⟨by omega, j2⟩
def rowV (r : TN) : AN := ⟨r.parent, r.name, lookA r.attrs⟩
def rowsL (l : List TN) : List TN := l.foldl putL T0L
def viewF (v : Int → Option AN) : List TN → Int → Option AN
  | [] => v
  | r :: l => viewF (updV v r.node (some (rowV r))) l
theorem viewF_none : ∀ {l : List TN} {v : Int → Option AN} {n : Int}, (∀ r ∈ l, r.node ≠ n) → viewF v l n = v n
  | [], _, _, _ => rfl
  | r :: l, v, n, h => by
    rw [viewF, viewF_none fun q hq => h q (by simp [hq]), updV_ne (fun e => h r (by simp) e.symm)]
theorem viewF_of : ∀ {l : List TN} {v : Int → Option AN} {r : TN}, l.Pairwise (fun a b => a.node < b.node) → r ∈ l → viewF v l r.node = some (rowV r)
  | [], _, _, _, h => by simp at h
  | q :: l, v, r, h, hr => by
    rw [List.pairwise_cons] at h
    rw [viewF]
    rcases List.mem_cons.1 hr with rfl | hr
    · rw [viewF_none fun x hx => by have := h.1 x hx; omega, updV_eq]
    · exact viewF_of h.2 hr
theorem T0L_ok : LOk T0L := ⟨by simp [T0L], fun t ht => by simp [T0L] at ht; rcases ht with rfl | rfl <;> rfl⟩
theorem T0L_view : viewL T0L = T0.view := by
  funext n
  unfold viewL T0L
  rw [getL_cons, getL_cons]
  have hnil : getL [] n = none := by simp [getL, isL]
  rw [hnil]
  simp only
  by_cases h1 : n = 1
  · subst h1; rfl
  · by_cases h2 : n = 2
    · subst h2; rfl
    · have h0 : T0.view n = none := by
        rw [PT.view_none]
        show getA _ _ = none
        simp [T0, getA, Ne.symm h1, Ne.symm h2]
      rw [h0]
      by_cases q1 : (1 : Int) < n
      · rw [if_pos q1]
        by_cases q2 : (2 : Int) < n
        · rw [if_pos q2]; rfl
        · rw [if_neg q2, if_neg (Ne.symm h2)]; rfl
      · rw [if_neg q1, if_neg (Ne.symm h1)]; rfl
theorem putL_len (l : List TN) (a : TN) : (putL l a).length ≤ l.length + 1 := by
  unfold putL
  split
  · simp
  · have := findL_le l a.node
    simp only [List.length_append, List.length_take, List.length_cons, List.length_drop]; omega
theorem putL_ne (l : List TN) (a : TN) : putL l a ≠ [] := by
  unfold putL
  split
  · rename_i h
    rw [isL] at h
    intro e
    have := congrArg List.length e
    simp only [List.length_set, List.length_nil] at this
    rw [List.length_eq_zero_iff.1 this] at h
    simp at h
  · simp
theorem foldl_put : ∀ {l b : List TN}, LOk b → (∀ r ∈ l, attrsA ⟨#[]⟩ r.attrs = true) → LOk (l.foldl putL b) ∧ viewL (l.foldl putL b) = viewF (viewL b) l
  | [], b, h, _ => ⟨h, rfl⟩
  | r :: l, b, h, ha => by
    obtain ⟨h1, h2⟩ := h.put (a := r) (ha r (by simp))
    obtain ⟨i1, i2⟩ := foldl_put (l := l) h1 fun q hq => ha q (by simp [hq])
    exact ⟨i1, by rw [List.foldl_cons, i2, h2]; rfl⟩
theorem rowsL_view {l : List TN} (h : okR 0 l = true) : LOk (rowsL l) ∧ viewL (rowsL l) = viewOf l := by
  obtain ⟨h1, h2⟩ := okR_each h
  obtain ⟨i1, i2⟩ := foldl_put (l := l) T0L_ok fun r hr => (h2 r hr).2
  refine ⟨i1, ?_⟩
  show viewL (l.foldl putL T0L) = _
  rw [i2, T0L_view]
  funext n
  by_cases hn : ∃ r ∈ l, r.node = n
  · obtain ⟨r, hr, rfl⟩ := hn
    rw [viewF_of h1 hr, viewOf, rowGet_of h1 hr]
    simp only [Option.map_some, Option.some.injEq, rowV, rowN, PN.view, AN.mk.injEq, true_and]
    funext j
    rw [laidA_get (h2 r hr).2]
  · have hn' : ∀ r ∈ l, r.node ≠ n := fun r hr e => hn ⟨r, hr, e⟩
    rw [viewF_none hn', viewOf, rowGet_none hn']
    rfl
theorem LeadsN.fewL {l : List TN} (hL : LOk l) {k : Nat} {n : Int} (h : LeadsN (viewL l) k n) : k ≤ l.length := by
  obtain ⟨ns, e1, e2, e3, _⟩ := h.way
  have := nodup_len (b := l.map (·.node)) e2 fun m hm => by
    have := e3 m hm
    unfold viewL at this
    cases hg : getL l m with
    | none => rw [hg] at this; simp at this
    | some t =>
      obtain ⟨q1, q2⟩ := (getL_mem hL.sorted).1 hg
      exact List.mem_map.2 ⟨t, q1, q2⟩
  simpa [e1] using this
end Go.Proofs.YtnoeabmpdjpfaaaGreatDoor.Vc

/- The document's tree of rows: the walk. -/
set_option linter.unusedVariables false
set_option linter.unusedSimpArgs false
set_option maxRecDepth 100000
namespace Go.Proofs.YtnoeabmpdjpfaaaGreatDoor.Vc
open Go Go.Proofs

end Go.Proofs.YtnoeabmpdjpfaaaGreatDoor.Vc

/- The document's lists beside a tree: plain. -/
set_option linter.unusedVariables false
set_option linter.unusedSimpArgs false
namespace Go.Proofs.YtnoeabmpdjpfaaaGreatDoor.Vc
open Go

theorem plain_rows {l : List TN} {T : PT} {k : Nat} (h : LOk l) (hv : ∀ n, viewL l n = T.view n ∨ (viewL l n = none ∧ topB n = true ∧ T.view n = some PN.bare.view)) (hok : T.ok k) (hg : VGood T.view) : plainL l = nodesTold T := by
  have hs2 := toldL_sorted (T := T) (nodesK_sorted hok.nod)
  have hs1 : (plainL l).Pairwise (fun a b => a.node < b.node) := h.sorted.sublist List.filter_sublist
  have nd : ∀ {l : List TN}, l.Pairwise (fun a b => a.node < b.node) → l.Nodup := fun hs => hs.imp fun {a b} hab e => by rw [e] at hab; omega
  have hat : ∀ n x, T.get n = some x → attrsA ⟨#[]⟩ (attrsOf x) = true := fun n x hx => attrsOf_ok (hok.attrs n x hx).1 fun k w h => hg.pairs n _ k w (PT.view_get hx) h
  have key : ∀ n t x, getL l n = some t → T.get n = some x → t = toldOf n x := fun n t x h1 h2 => by
    have hvn : viewL l n = T.view n := by
      rcases hv n with q | ⟨q, _⟩
      · exact q
      · rw [viewL, h1] at q; cases q
    rw [viewL, h1, PT.view_get h2] at hvn
    simp only [Option.map_some, Option.some.injEq, PN.view, AN.mk.injEq] at hvn
    obtain ⟨q1, q2, q3⟩ := hvn
    obtain ⟨m1, m2⟩ := (getL_mem h.sorted).1 h1
    obtain ⟨tn, tp, tm, ta⟩ := t
    simp only at q1 q2 q3 m2
    have : ta = attrsOf x := attrs_uniq (h.attrs _ m1) (hat n x h2) (by rw [q3]; funext j; exact (attrsOf_look x j).symm)
    rw [toldOf, ← q1, ← q2, ← m2, this]
  have hsh : ∀ t : TN, 0 < t.node → (decide (t.node > 2) || decide (0 < t.attrs.length)) = t.shown := fun t ht => by
    rw [TN.shown]
    congr 1
    simp only [topB]
    by_cases h1 : t.node = 1
    · simp [h1]
    · by_cases h2 : t.node = 2
      · simp [h2]
      · rw [decide_eq_true (by omega)]; simp [h1, h2]
  have hp : (plainL l).Perm (nodesTold T) := (List.perm_ext_iff_of_nodup (nd hs1) (nd hs2)).2 fun t => by
    constructor
    · intro ht
      obtain ⟨m1, m2⟩ := List.mem_filter.1 ht
      have hg1 := (getL_mem h.sorted).2 ⟨m1, rfl⟩
      have hvn : viewL l t.node = T.view t.node := by
        rcases hv t.node with q | ⟨q, _⟩
        · exact q
        · rw [viewL, hg1] at q; cases q
      rw [viewL, hg1] at hvn
      obtain ⟨x, hx, _⟩ := get_of_view hvn.symm
      have e := key _ _ _ hg1 hx
      rw [e]
      refine (mem_told hx).2 ?_
      rw [← e, ← hsh t (hg.pos _ _ (PT.view_get hx))]
      exact m2
    · intro ht
      obtain ⟨n, _, x, hx, rfl⟩ := toldL_node ht
      have hshow := (mem_told hx).1 ht
      rcases hv n with hvn | ⟨_, htop, hb⟩
      · rw [PT.view_get hx] at hvn
        cases hg1 : getL l n with
        | none => rw [viewL, hg1] at hvn; cases hvn
        | some t =>
          have e := key _ _ _ hg1 hx
          obtain ⟨m1, _⟩ := (getL_mem h.sorted).1 hg1
          rw [e] at m1
          refine List.mem_filter.2 ⟨m1, ?_⟩
          rw [hsh _ (hg.pos _ _ (PT.view_get hx))]
          exact hshow
      · rw [PT.view_get hx] at hb
        simp only [Option.some.injEq, PN.view, PN.bare, AN.mk.injEq] at hb
        have : attrsOf x = [] := attrs_uniq (hat n x hx) rfl (by funext j; rw [attrsOf_look, hb.2.2]; rfl)
        rw [TN.shown, show (toldOf n x).node = n from rfl, htop, show (toldOf n x).attrs = attrsOf x from rfl, this] at hshow
        cases hshow
  refine List.Perm.eq_of_pairwise (le := fun a b : TN => a.node < b.node) (fun a b _ _ h1 h2 => ?_) hs1 hs2 hp
  omega
theorem plain_from {l : List TN} {T : PT} {k : Nat} (hR : okR 0 l = true) (hv : T.view = viewOf l) (hok : T.ok k) (hg : VGood T.view) : plainL l = nodesTold T := by
  obtain ⟨h1, h2⟩ := okR_each hR
  have hL : LOk l := ⟨h1, fun t ht => (h2 t ht).2⟩
  refine plain_rows hL (fun n => ?_) hok hg
  rw [hv]
  by_cases hn : ∃ r ∈ l, r.node = n
  · obtain ⟨r, hr, rfl⟩ := hn
    left
    rw [viewL, (getL_mem h1).2 ⟨hr, rfl⟩, viewOf, rowGet_of h1 hr]
    simp only [Option.map_some, Option.some.injEq, rowN, PN.view, AN.mk.injEq, true_and]
    funext j
    rw [laidA_get (h2 r hr).2]
  · have hn' : ∀ r ∈ l, r.node ≠ n := fun r hr e => hn ⟨r, hr, e⟩
    have hgn : getL l n = none := by
      cases hg : getL l n with
      | none => rfl
      | some t => obtain ⟨q1, q2⟩ := (getL_mem h1).1 hg; exact absurd q2 (hn' t q1)
    rw [viewL, hgn, viewOf, rowGet_none hn']
    cases h0 : T0.get n with
    | none => exact .inl rfl
    | some x =>
      right
      exact ⟨rfl, (T0_keys (PT.view_get h0)).1, by rw [T0_get h0]; rfl⟩
theorem list_bounds {l : List TN} {T : PT} {k : Nat} (h : LOk l) (hv : viewL l = T.view) (hok : T.ok k) (hg : VGood T.view) : l.length ≤ k + 2 ∧ ∀ t ∈ l, t.attrs.length ≤ k := by
  have hin : ∀ t ∈ l, ∃ x, T.get t.node = some x ∧ t.attrs = attrsOf x := fun t ht => by
    have hg1 := (getL_mem h.sorted).2 ⟨ht, rfl⟩
    have hvn : viewL l t.node = T.view t.node := congrFun hv _
    rw [viewL, hg1] at hvn
    obtain ⟨x, hx, he⟩ := get_of_view hvn.symm
    refine ⟨x, hx, attrs_uniq (h.attrs t ht) (attrsOf_ok (hok.attrs _ x hx).1 fun k w q => hg.pairs _ _ k w (PT.view_get hx) q) ?_⟩
    simp only [PN.view, AN.mk.injEq] at he
    rw [← he.2.2]
    funext j
    exact (attrsOf_look x j).symm
  refine ⟨?_, fun t ht => ?_⟩
  · have nd : (l.map (·.node)).Nodup := by
      rw [List.Nodup, List.pairwise_map]
      exact h.sorted.imp fun {a b} hab e => by omega
    have := nodup_len (b := T.nodes.map (·.1)) nd fun m hm => by
      obtain ⟨t, ht, rfl⟩ := List.mem_map.1 hm
      obtain ⟨x, hx, _⟩ := hin t ht
      exact List.mem_map.2 ⟨(t.node, x), getA_mem hx, rfl⟩
    simp only [List.length_map] at this
    have := hok.many
    omega
  · obtain ⟨x, hx, e⟩ := hin t ht
    rw [e]
    have := (hok.attrs _ x hx).2
    simpa [attrsOf, attrKeys, sortB] using this
end Go.Proofs.YtnoeabmpdjpfaaaGreatDoor.Vc

/- Both trees by operations. -/
set_option linter.unusedVariables false
set_option linter.unusedSimpArgs false
set_option maxRecDepth 100000
namespace Go.Proofs.YtnoeabmpdjpfaaaGreatDoor.Vc
open Go Go.Proofs

theorem made20_spec (w : World) (va : Value) (ops : List Op) (hl : ops.length ≤ 1048576) (ho : ∀ op ∈ ops, OpOk op) (u : PH) (hu : u.le w) (hc : SlR u va 8 (ops.map gOp)) :
    Spec Tryz.prog f_law20_made [va] PH.no w fun rs m' => ∃ L T b lr ls mA mR, rs = [.s (ptr (L .t)), .s (ptr b)] ∧ m' = uni mR mA ∧ dis mR mA ∧ TM mA L T ∧ RC mR b lr ls ∧ LOk lr ∧ viewL lr = T.view ∧ T.ok ops.length ∧ VGood T.view ∧ T.kidsOk := by
  refine spec_of k_law20_made [.ro va 8 (gOp zOp) (ops.map gOp)] (by simp) (by simpa [AV.ok, u0_no] using hc.up hu.sub) ?_
  simp (maxSteps := 2000000) only [c_law20_made, vc_seq, vc_rg, thenQ_n, kKeep_eq, segs_nil, segs_n, ops_nil, ops_cons, vcOp, ev, look, put_mk, keep_mk, keepL, Value.oneCell', cond_true, ↓reduceIte, reduceCtorEq, initF, initP, List.length_map, ptr]
  refine call_ownm rfl rfl (Q := fun rs m' => ∃ L, rs = [.s (ptr (L .t))] ∧ TM m' L T0) (fun w' vs hv hw _ _ => ?_) fun rs m1 _ hq _ => ?_
  · obtain rfl := argsV_nil hv
    exact New_spec w'
  obtain ⟨L0, rfl, hT0⟩ := hq
  simp (maxSteps := 2000000) only [retS, uni_no_r, vc_seq, vc_rg, thenQ_n, kKeep_eq, segs_nil, segs_n, ops_nil, ops_cons, vcOp, ev, look, put_mk, keep_mk, keepL, ↓reduceIte, reduceCtorEq, ptr]
  refine call_ownm rfl rfl (Q := fun rs m' => ∃ b, rs = [.s (ptr b)] ∧ RC m' b T0L []) (fun w' vs hv hw _ _ => ?_) fun rs m2 _ hq hd2 => ?_
  · obtain rfl := argsV_nil hv
    exact (rNew_spec w' PH.no).mono fun rs m' ⟨b, e, h⟩ => ⟨b, e, m', PH.no, (uni_no_r _).symm, dis_no_r _, h⟩
  obtain ⟨b, rfl, hR0⟩ := hq
  simp (maxSteps := 2000000) only [retS, vc_seq, vc_rg, thenQ_n, kKeep_eq, segs_nil, segs_n, ops_nil, ops_cons, vcOp, ev, look, put_mk, keep_mk, keepL, Value.oneCell', cond_true, Nat.reduceEqDiff, ↓reduceIte, reduceCtorEq, ptr]
  refine eq_of (eqTree _) ?_
  simp (maxSteps := 2000000) only [vc_skip, vc_seq, vc_block, vc_rg, vc_ite, thenQ_n, kKeep_eq, segs_nil, segs_n, ops_nil, ops_cons, vcOp, ev, look, put_mk, keep_mk, keepL, Value.oneCell', cond_true, Nat.reduceEqDiff, ↓reduceIte, reduceCtorEq, ↓br_ft, Bool.bne_false]
  refine vc_loop (ι := Nat × (Lay × PT × PH) × (List TN × List (List TN) × PH)) (fun q => ⟨[(4, .g (.s (.pointer (some ⟨L0 .t, 0, none⟩)))), (5, .g (.s (.pointer (some ⟨b, 0, none⟩)))), (12, .row 0 0 (ops.length)), (13, .g (.s (.int .i64 (ops.length)))), (14, .g (.s (.int .i64 (q.1))))], [(0, .ro 8 (gOp zOp) (ops.map gOp))], [], uni q.2.2.2.2 q.2.1.2.2⟩)
    (fun q => q.1 ≤ ops.length ∧ (q.2.1.1 .t = L0 .t ∧ TM q.2.1.2.2 q.2.1.1 q.2.1.2.1 ∧ q.2.1.2.1.ok q.1 ∧ VGood q.2.1.2.1.view ∧ q.2.1.2.1.kidsOk) ∧ (RC q.2.2.2.2 b q.2.2.1 q.2.2.2.1 ∧ LOk q.2.2.1 ∧ viewL q.2.2.1 = q.2.1.2.1.view ∧ q.2.2.2.1.length ≤ q.1) ∧ dis q.2.2.2.2 q.2.1.2.2) (fun q => ops.length - q.1) (0, (L0, T0, m1), (T0L, [], m2)) ⟨by simp, ⟨rfl, hT0, T0_ok, T0_good, T0_kids⟩, ⟨hR0, T0L_ok, T0L_view, by simp⟩, hd2⟩ (ge_of ?_ ?_ rfl rfl rfl) ?_
  · simp [frIn, look]
  · simp [pvIn, look]
  clear hT0 hR0 hd2
  rintro ⟨i, ⟨L, T, mA⟩, ⟨lr, ls, mR⟩⟩ ⟨hi, ⟨hLt, hT, hok, hgd, hkd⟩, ⟨hR, hL, hv, hls⟩, hd⟩
  simp only at hi hLt hT hok hgd hkd hR hL hv hls hd
  obtain ⟨hb1, hb2⟩ := list_bounds hL hv hok hgd
  generalize hQ : loopQ _ _ _ _ _ = Q
  simp (maxSteps := 2000000) only [c_law20_made_L0, vc_skip, vc_exit, vc_seq, vc_block, vc_rg, vc_ite, thenQ_n, thenQ_e, kKeep_eq, segs_nil, segs_n, ops_nil, ops_cons, vcOp, ev, look, updL, put_mk, put_mk0, keep_mk, keepL, rowE, rowD, binV, binC, Nat.reduceEqDiff, ↓reduceIte, reduceCtorEq, Nat.zero_add, Bool.and_true, Bool.true_and, true_and, and_true, Int.toNat_natCast, decide_eq_true_eq, decide_eq_false_iff_not, br_t, getT_nil, setT_nil, gStamp_zero, gOp_sz, gOp_fits, gOp_same, gOp_zero, getD_gOp]
  refine ⟨fun hlt => ⟨⟨by omega, by omega⟩, ?_⟩, fun hge => ?_⟩
  · obtain ⟨op, hop⟩ : ∃ op, ops.getD i zOp = op := ⟨_, rfl⟩
    have hmem : op ∈ ops := by rw [← hop, List.getD_eq_getElem?_getD, List.getElem?_eq_getElem (by omega)]; exact List.getElem_mem _
    obtain ⟨hw1, hw2⟩ := ho op hmem
    rw [hop]
    refine call_with mA mR (dOk_spec rfl) rfl (uni_comm hd) (dis_comm hd) (Q := fun rs m' => (mayA T op = false → rs = [gUndo zUndo, .s (.bool false)] ∧ TM m' L T) ∧ (mayA T op = true → ∃ L', L' .t = L0 .t ∧ L' .mk = L .mk ∧ rs = [gUndo (T.undo (ptr (L .mk)) op), .s (.bool true)] ∧ TM m' L' (T.does op))) (fun w' vs hvv _ _ => ?_) fun rs m4 _ hq hd4 => ?_
    · obtain ⟨vs, rfl, _, hvv⟩ := argsV_g hvv
      obtain ⟨vs, rfl, _, hvv⟩ := argsV_g hvv
      obtain rfl := argsV_nil hvv
      have := Do_spec w' mA L T op hw2 (ok_fits hok (by omega)) hT
      rw [hLt] at this
      exact this
    cases hmay : mayA T op
    · obtain ⟨rfl, hT4⟩ := hq.1 hmay
      simp (maxSteps := 2000000) only [retS, vc_rg, thenQ_n, kKeep_eq, segs_nil, segs_n, ops_nil, ops_cons, vcOp, ev, look, put_mk, keep_mk, keepL, Nat.reduceEqDiff, ↓reduceIte, reduceCtorEq, Bool.true_and, true_and, getT_nil, gOp_fits]
      refine call_with mR m4 (dOk_spec rfl) rfl (uni_comm hd4) (dis_comm hd4) (Q := fun rs m' => (mayA T op = false → rs = [.s (.bool false)] ∧ RC m' b lr ls) ∧ (mayA T op = true → rs = [.s (.bool true)] ∧ RC m' b (doL lr op) (ls ++ [lr]))) (fun w' vs hvv _ _ => ?_) fun rs m5 _ hq5 hd5 => ?_
      · obtain ⟨vs, rfl, _, hvv⟩ := argsV_g hvv
        obtain ⟨vs, rfl, _, hvv⟩ := argsV_g hvv
        obtain rfl := argsV_nil hvv
        exact rDo_spec w' mR b lr ls hR hL T hv hgd op hw2 (by omega) (by omega) fun t ht => by have := hb2 t ht; omega
      obtain ⟨rfl, hR5⟩ := hq5.1 hmay
      simp (maxSteps := 2000000) only [retS, vc_rg, thenQ_n, blockQ_n, kKeep_eq, segs_nil, segs_n, ops_nil, ops_cons, vcOp, ev, look, put_mk, keep_mk, keepL, binV, binC, Value.oneCell', cond_true, Nat.reduceEqDiff, ↓reduceIte, Bool.true_and, true_and]
      subst hQ; simp only [loopQ_n]; refine ⟨(i + 1, (L, T, m4), (lr, ls, m5)), ?_, ?_, ge_of ?_ ?_ rfl rfl rfl⟩
      · exact ⟨by simp only; omega, ⟨hLt, hT4, hok.up (by simp only; omega), hgd, hkd⟩, ⟨hR5, hL, hv, by simp only; omega⟩, hd5⟩
      · simp only; omega
      · simp only [frIn, look, Nat.reduceEqDiff, ↓reduceIte, Bool.and_true, Bool.true_and, true_and, and_true]
        rw [wrap_n (by omega)]
        try simp
      · simp [pvIn, look]
    · obtain ⟨L', hL1, hL2, rfl, hT4⟩ := hq.2 hmay
      simp (maxSteps := 2000000) only [retS, vc_rg, thenQ_n, kKeep_eq, segs_nil, segs_n, ops_nil, ops_cons, vcOp, ev, look, put_mk, keep_mk, keepL, Nat.reduceEqDiff, ↓reduceIte, reduceCtorEq, Bool.true_and, true_and, getT_nil, gOp_fits, ptr]
      refine call_with mR m4 (dOk_spec rfl) rfl (uni_comm hd4) (dis_comm hd4) (Q := fun rs m' => (mayA T op = false → rs = [.s (.bool false)] ∧ RC m' b lr ls) ∧ (mayA T op = true → rs = [.s (.bool true)] ∧ RC m' b (doL lr op) (ls ++ [lr]))) (fun w' vs hvv _ _ => ?_) fun rs m5 _ hq5 hd5 => ?_
      · obtain ⟨vs, rfl, _, hvv⟩ := argsV_g hvv
        obtain ⟨vs, rfl, _, hvv⟩ := argsV_g hvv
        obtain rfl := argsV_nil hvv
        exact rDo_spec w' mR b lr ls hR hL T hv hgd op hw2 (by omega) (by omega) fun t ht => by have := hb2 t ht; omega
      obtain ⟨rfl, hR5⟩ := hq5.2 hmay
      obtain ⟨hL5, hv5⟩ := doL_view hL hv hok hgd hmay
      simp (maxSteps := 2000000) only [retS, vc_rg, thenQ_n, blockQ_n, kKeep_eq, segs_nil, segs_n, ops_nil, ops_cons, vcOp, ev, look, put_mk, keep_mk, keepL, binV, binC, Value.oneCell', cond_true, Nat.reduceEqDiff, ↓reduceIte, Bool.true_and, true_and]
      subst hQ; simp only [loopQ_n]; refine ⟨(i + 1, (L', T.does op, m4), (doL lr op, ls ++ [lr], m5)), ?_, ?_, ge_of ?_ ?_ rfl rfl rfl⟩
      · exact ⟨by simp only; omega, ⟨hL1, hT4, (does_ok hok hmay hw1).up (by simp only; omega), does_good hgd hok hmay, does_kids hgd hmay hkd⟩, ⟨hR5, hL5, hv5, by simp only [List.length_append, List.length_cons, List.length_nil]; omega⟩, hd5⟩
      · simp only; omega
      · simp only [frIn, look, Nat.reduceEqDiff, ↓reduceIte, Bool.and_true, Bool.true_and, true_and, and_true]
        rw [wrap_n (by omega)]
        try simp
      · simp [pvIn, look]
  · subst hQ
    simp (maxSteps := 2000000) only [vc_ret, vc_seq, vc_rg, thenQ_n, blockQ_e, kKeep_eq, loopQ_e, finQ_r, segs_nil, segs_n, ops_nil, ops_cons, vcOp, ev, look, put_mk, keep_mk, keepL, Nat.reduceEqDiff, ↓reduceIte]
    have hi' : i = ops.length := by omega
    exact fin_m (rs := [.s (ptr (L .t)), .s (ptr b)]) (uni mR mA) (by rw [hLt]; rfl) (fun _ _ h => h) ⟨L, T, b, lr, ls, mA, mR, rfl, rfl, hd, hT, hR, hL, hv, hi' ▸ hok, hgd, hkd⟩
end Go.Proofs.YtnoeabmpdjpfaaaGreatDoor.Vc

/- The code of some functions of the program, its types resolved: printed by a program of this claim. -/
set_option linter.unusedVariables false
set_option maxRecDepth 100000
namespace Go.Proofs.YtnoeabmpdjpfaaaGreatDoor.Vc
open Go Go.Proofs

abbrev f_tree_Tree_Node : Nat := 12
def c_tree_Tree_Node : Cd :=
 (.seq (.rg [⟨none, [(some 4, .new 32 (.c (.s (.int .i64 0)) (.c (.s (.int .i64 0)) (.c (.s (.string ⟨#[]⟩)) (.c (.s (.slice none 0 0)) .u))))), (some 5, .mv (.c (.bool false)))]⟩] [0, 1, 4])
 (.seq (.seq (.rg [⟨none, [(some 6, .mv (.t 0)), (some 7, .call 30 [(.t 6)]), (some 8, .mv (.t 7))]⟩, ⟨some (8, false), [(some 9, .mv (.t 0)), (some 10, .nilc (.t 9)), (some 11, .fldA (.t 10) 0 0), (some 12, .ld (.t 11) 1 false), (some 13, .mv (.t 1)), (some 14, .mlk (some .i64) (.t 12) (.t 13) (.pointer none) false), (some 15, .eqA false 86 (.t 14) (.c (.pointer none)))]⟩, ⟨none, [(some 16, .pick (.t 8) (.c (.bool true)) (.t 15))]⟩] [0, 1, 4, 16])
 (.ite (.t 16)
 (.seq (.rg [⟨none, [(some 17, .bld (.c (.s (.int .i64 0)) (.c (.s (.int .i64 0)) (.c (.s (.string ⟨#[]⟩)) (.c (.s (.slice none 0 0)) .u)))) []), (none, .st (.t 4) (.t 17) 4), (some 5, .mv (.c (.bool false)))]⟩] [4, 5])
 .ret)
 .skip))
 (.seq (.rg [⟨none, [(some 18, .mv (.t 0)), (some 19, .mv (.t 1)), (some 20, .call 33 [(.t 18), (.t 19)]), (none, .st (.t 4) (.t 20) 4), (some 5, .mv (.c (.bool true)))]⟩] [4, 5])
 .ret)))
theorem k_tree_Tree_Node : Ok Tryz.prog 12 c_tree_Tree_Node 21 [] [.cell 4 4 true, .tmp 5] := Ok.mk' Tryz.func12 (by kernel_rfl) (by kernel_rfl) (by kernel_rfl)

abbrev f_tree_Tree_Below : Nat := 10
def c_tree_Tree_Below : Cd :=
 (.seq (.rg [⟨none, [(some 6, .mv (.c (.bool false)))]⟩] [0, 1, 2])
 (.seq (.rg [⟨none, [(some 7, .mv (.t 0)), (some 8, .call 30 [(.t 7)]), (some 9, .un .not (.t 8)), (some 10, .mv (.t 9))]⟩, ⟨some (10, true), [(some 11, .mv (.t 0)), (some 12, .nilc (.t 11)), (some 13, .fldA (.t 12) 0 0), (some 14, .ld (.t 13) 1 false), (some 15, .mv (.t 1)), (some 16, .mlk (some .i64) (.t 14) (.t 15) (.pointer none) false), (some 17, .eqA true 86 (.t 16) (.c (.pointer none)))]⟩, ⟨none, [(some 18, .pick (.t 10) (.t 17) (.c (.bool false))), (some 19, .mv (.t 18))]⟩, ⟨some (19, true), [(some 20, .mv (.t 0)), (some 21, .nilc (.t 20)), (some 22, .fldA (.t 21) 0 0), (some 23, .ld (.t 22) 1 false), (some 24, .mv (.t 2)), (some 25, .mlk (some .i64) (.t 23) (.t 24) (.pointer none) false), (some 26, .eqA true 86 (.t 25) (.c (.pointer none)))]⟩, ⟨none, [(some 27, .pick (.t 19) (.t 26) (.c (.bool false))), (some 28, .mv (.t 27))]⟩, ⟨some (28, true), [(some 29, .mv (.t 0)), (some 30, .mv (.t 1)), (some 31, .mv (.t 2)), (some 32, .call 37 [(.t 29), (.t 30), (.t 31)])]⟩, ⟨none, [(some 33, .pick (.t 28) (.t 32) (.c (.bool false))), (some 6, .mv (.t 33))]⟩] [6])
 .ret))
theorem k_tree_Tree_Below : Ok Tryz.prog 10 c_tree_Tree_Below 34 [] [.tmp 6] := Ok.mk' Tryz.func10 (by kernel_rfl) (by kernel_rfl) (by kernel_rfl)

end Go.Proofs.YtnoeabmpdjpfaaaGreatDoor.Vc

