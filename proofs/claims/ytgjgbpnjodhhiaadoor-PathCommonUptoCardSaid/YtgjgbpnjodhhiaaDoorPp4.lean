/- Split and Join. -/
import Derived.Test.YtgjgbpnjodhhiaaDoorPp3
import Derived.Test.YtgjgbpnjodhhiaaDoorIp2
set_option linter.unusedVariables false
set_option linter.unusedSimpArgs false
set_option maxRecDepth 100000
namespace Go.Proofs.YtgjgbpnjodhhiaaDoor.Vc
open Go Go.Proofs

def SplitR (r : List (List UInt8) × Int) (rs : List GV) (m' : PH) : Prop := ∃ v, rs = [.s v, .s (.int .i64 r.2)] ∧ SlO m' v 9 1 (r.1.map gN)

theorem segs_len : ∀ l : List UInt8, (segs l).length ≤ l.length + 1
  | [] => by simp [segs]
  | c :: l => by
    have := segs_len l
    by_cases h : c = 47
    · subst h; simp only [segs, if_true, List.length_cons]; omega
    · obtain ⟨x, t, h1, h2⟩ := segs_cons h l
      rw [h2]; rw [h1] at this
      simp only [List.length_cons] at this ⊢
      omega
theorem segs_mem : ∀ {l x : List UInt8}, x ∈ segs l → x.length ≤ l.length
  | [], x, h => by simp [segs] at h; subst h; simp
  | c :: l, x, h => by
    by_cases hc : c = 47
    · subst hc
      simp only [segs, if_true, List.mem_cons] at h
      rcases h with rfl | h
      · simp
      · have := segs_mem h; simp; omega
    · obtain ⟨y, t, h1, h2⟩ := segs_cons hc l
      rw [h2] at h
      rcases List.mem_cons.1 h with rfl | h
      · have : y.length ≤ l.length := segs_mem (by rw [h1]; simp)
        simp; omega
      · have := segs_mem (l := l) (x := x) (by rw [h1]; simp [h])
        simp; omega

theorem splitA_no {p : List UInt8} (h1 : p ≠ [47]) (h : preS p = false) : splitA p = ([], 200) := by
  unfold splitA
  rw [if_neg h1]
  cases p with
  | nil => rfl
  | cons c r =>
    simp only
    rw [if_neg]
    intro e; subst e
    simp [preS] at h
theorem splitA_yes {p : List UInt8} (h1 : p ≠ [47]) (h : preS p = true) : splitA p = if wrongA (segs (p.drop 1)) = 0 then (segs (p.drop 1), 0) else ([], wrongA (segs (p.drop 1))) := by
  unfold splitA
  rw [if_neg h1]
  cases p with
  | nil => cases h
  | cons c r =>
    have : c = 47 := by simpa [preS] using h
    subst this
    simp

theorem nil_O (m : PH) : SlO PH.no (.slice none 0 0) 9 1 (([] : List (List UInt8)).map gN) := ⟨fun x hx => by simp at hx, .inl ⟨rfl, rfl⟩⟩

theorem pSplit_spec (w : World) (p : List UInt8) (hs : p.length < 4294967281) (u : PH) (hu : u.le w) (hG : GlobI u) : Spec Tryd.prog f_path_Split [.string (mkS p)] PH.no w (SplitR (splitA p)) := by
  refine spec_of k_path_Split [.g (gN p)] (by simp) (by simp [AV.ok, gN_ok]) ?_
  simp (maxSteps := 2000000) only [c_path_Split, gN, vc_skip, vc_ret, vc_exit, vc_seq, vc_block, vc_scope, scopeQ_n, scopeQ_r, scopeQ_e, vc_rg, vc_rgq, vc_rga, vc_ite, thenQ_n, thenQ_r, thenQ_e, blockQ_n, blockQ_r, blockQ_e, kKeep_eq, loopQ_r, loopQ_e, loopQ_n, finQ_r, finQ_n, segs_nil, segs_n, segs_g, ops_nil, ops_cons, qsegs_nil, qsegs_n, qsegs_g, qops_nil, qops_cons, ot_done, ot_op, ot_or, ot_held, oh_done, oh_op, oh_or, oh_first, oh_firstg, heldC_eq, heldF_eq, heldOk, heldK, ldH, heldM_self, heldM_one, heldM_two, heldM_three, List.contains_cons, List.contains_nil, Bool.or_false, Bool.or_true, Bool.true_or, Bool.false_or, vcqOp, vcOp, isRd, RO.isGh, skip_mk, skipL, ev, evL, gvL, scL, look, updL, put_mk, put_mk0, keep_mk, keepL, rowE, rowD, bndN, binV, binC, unV, GV.getT, GV.fld, GV.sz, GV.same, GV.setT, Value.oneCell', cond_true, cond_false, Nat.reduceEqDiff, Nat.reduceAdd, Nat.reduceMul, Nat.reduceSub, Nat.reduceBEq, Nat.reduceLeDiff, ↓reduceIte, reduceCtorEq, List.nil_append, List.cons_append, List.append_nil, Nat.zero_add, Nat.add_zero, Bool.and_true, Bool.true_and, Bool.not_true, Bool.not_false, BEq.rfl, decide_true, decide_false, true_and, and_true, initF, initP, List.map_cons, List.map_nil, Option.map_some, szAll, List.length_cons, List.length_nil, finW_r, finW_n, resL, resOne, Option.bind_some, true_imp_iff, false_imp_iff, Bool.true_eq_false, Bool.false_eq_true, Int.toNat_natCast, Int.reduceToNat, Int.reduceLE, Int.reduceLT, Int.reduceAdd, Int.reduceSub, Int.reduceEq, decide_eq_true_eq, decide_eq_false_iff_not, kill, SV.mentions, ne_eq, not_false_eq_true, not_true_eq_false, List.drop_zero, List.take_succ_cons, List.take_zero, dOk, ↓br_tt, ↓br_ff, ↓br_tf, ↓br_ft, br_t, br_f, Bool.bne_false, Bool.bne_true, GV.bldT, GV.bldC, gVec_get, gVec_set, gVec_arr, gVec_fits, gVec_sz, gVec_sameT, gVec_zero, gVec_isS, gVec2_get, gVec2_arr, gVec2_fits, gVec2_sz, gVec2_sameT, gVec2_zero, gVec2_set, same_int, getT_nil, setT_nil, getD_gi, List.length_map, fits_s, fits_c, fits_ar, arr_ar, get_nil, mkS_size, getD_gN, getD_gb, mkS_at, mkS_e0, mkS_e46, mkS_e4646, mkS_e47, mkS_ext, List.length_map]
  refine ⟨fun h1 => ?_, fun h1 => ?_⟩
  · subst h1
    exact fin_m PH.no rfl (fun _ _ h => h) ⟨_, rfl, nil_O PH.no⟩
  refine call_fnv (sCutPrefix_fn p) rfl rfl rfl fun _ => ?_
  simp (maxSteps := 2000000) only [retS, gN, List.getElem?_cons_zero, List.getElem?_cons_succ, vc_skip, vc_ret, vc_exit, vc_seq, vc_block, vc_scope, scopeQ_n, scopeQ_r, scopeQ_e, vc_rg, vc_rgq, vc_rga, vc_ite, thenQ_n, thenQ_r, thenQ_e, blockQ_n, blockQ_r, blockQ_e, kKeep_eq, loopQ_r, loopQ_e, loopQ_n, finQ_r, finQ_n, segs_nil, segs_n, segs_g, ops_nil, ops_cons, qsegs_nil, qsegs_n, qsegs_g, qops_nil, qops_cons, ot_done, ot_op, ot_or, ot_held, oh_done, oh_op, oh_or, oh_first, oh_firstg, heldC_eq, heldF_eq, heldOk, heldK, ldH, heldM_self, heldM_one, heldM_two, heldM_three, List.contains_cons, List.contains_nil, Bool.or_false, Bool.or_true, Bool.true_or, Bool.false_or, vcqOp, vcOp, isRd, RO.isGh, skip_mk, skipL, ev, evL, gvL, scL, look, updL, put_mk, put_mk0, keep_mk, keepL, rowE, rowD, bndN, binV, binC, unV, GV.getT, GV.fld, GV.sz, GV.same, GV.setT, Value.oneCell', cond_true, cond_false, Nat.reduceEqDiff, Nat.reduceAdd, Nat.reduceMul, Nat.reduceSub, Nat.reduceBEq, Nat.reduceLeDiff, ↓reduceIte, reduceCtorEq, List.nil_append, List.cons_append, List.append_nil, Nat.zero_add, Nat.add_zero, Bool.and_true, Bool.true_and, Bool.not_true, Bool.not_false, BEq.rfl, decide_true, decide_false, true_and, and_true, initF, initP, List.map_cons, List.map_nil, Option.map_some, szAll, List.length_cons, List.length_nil, finW_r, finW_n, resL, resOne, Option.bind_some, true_imp_iff, false_imp_iff, Bool.true_eq_false, Bool.false_eq_true, Int.toNat_natCast, Int.reduceToNat, Int.reduceLE, Int.reduceLT, Int.reduceAdd, Int.reduceSub, Int.reduceEq, decide_eq_true_eq, decide_eq_false_iff_not, kill, SV.mentions, ne_eq, not_false_eq_true, not_true_eq_false, List.drop_zero, List.take_succ_cons, List.take_zero, dOk, ↓br_tt, ↓br_ff, ↓br_tf, ↓br_ft, br_t, br_f, Bool.bne_false, Bool.bne_true, GV.bldT, GV.bldC, gVec_get, gVec_set, gVec_arr, gVec_fits, gVec_sz, gVec_sameT, gVec_zero, gVec_isS, gVec2_get, gVec2_arr, gVec2_fits, gVec2_sz, gVec2_sameT, gVec2_zero, gVec2_set, same_int, getT_nil, setT_nil, getD_gi, List.length_map, fits_s, fits_c, fits_ar, arr_ar, get_nil, mkS_size, getD_gN, getD_gb, mkS_at, mkS_e0, mkS_e46, mkS_e4646, mkS_e47, mkS_ext, List.length_map]
  refine ⟨fun h2 => ?_, fun h2 => ?_⟩
  · rw [splitA_no h1 (by simpa using h2)]
    exact fin_m PH.no rfl (fun _ _ h => by cases h) ⟨_, rfl, nil_O PH.no⟩
  have h2' : preS p = true := by simpa using h2
  rw [if_pos h2']
  rw [splitA_yes h1 h2']
  have hlen : (p.drop 1).length < 4294967281 := by simp; omega
  have hsl := segs_len (p.drop 1)
  refine call_own (dOk_spec rfl) rfl (Q := SplitQ (segs (p.drop 1))) (fun w' vs hv hw _ => ?_) fun rs m' hok hq => ?_
  · obtain ⟨vs, rfl, _, hv⟩ := argsV_g hv
    obtain ⟨vs, rfl, _, hv⟩ := argsV_g hv
    obtain rfl := argsV_nil hv
    have := Split_spec w' (mkS (p.drop 1)) (by rw [mkS_size]; omega) u (fun b o hb => hw b o (by rw [u0_no]; exact hu b o hb)) hG
    exact this
  obtain ⟨v, rfl, hv⟩ := hq
  simp (maxSteps := 2000000) only [retS, uni_no_r, vc_skip, vc_ret, vc_exit, vc_seq, vc_block, vc_scope, scopeQ_n, scopeQ_r, scopeQ_e, vc_rg, vc_rgq, vc_rga, vc_ite, thenQ_n, thenQ_r, thenQ_e, blockQ_n, blockQ_r, blockQ_e, kKeep_eq, loopQ_r, loopQ_e, loopQ_n, finQ_r, finQ_n, segs_nil, segs_n, segs_g, ops_nil, ops_cons, qsegs_nil, qsegs_n, qsegs_g, qops_nil, qops_cons, ot_done, ot_op, ot_or, ot_held, oh_done, oh_op, oh_or, oh_first, oh_firstg, heldC_eq, heldF_eq, heldOk, heldK, ldH, heldM_self, heldM_one, heldM_two, heldM_three, List.contains_cons, List.contains_nil, Bool.or_false, Bool.or_true, Bool.true_or, Bool.false_or, vcqOp, vcOp, isRd, RO.isGh, skip_mk, skipL, ev, evL, gvL, scL, look, updL, put_mk, put_mk0, keep_mk, keepL, rowE, rowD, bndN, binV, binC, unV, GV.getT, GV.fld, GV.sz, GV.same, GV.setT, Value.oneCell', cond_true, cond_false, Nat.reduceEqDiff, Nat.reduceAdd, Nat.reduceMul, Nat.reduceSub, Nat.reduceBEq, Nat.reduceLeDiff, ↓reduceIte, reduceCtorEq, List.nil_append, List.cons_append, List.append_nil, Nat.zero_add, Nat.add_zero, Bool.and_true, Bool.true_and, Bool.not_true, Bool.not_false, BEq.rfl, decide_true, decide_false, true_and, and_true, initF, initP, List.map_cons, List.map_nil, Option.map_some, szAll, List.length_cons, List.length_nil, finW_r, finW_n, resL, resOne, Option.bind_some, true_imp_iff, false_imp_iff, Bool.true_eq_false, Bool.false_eq_true, Int.toNat_natCast, Int.reduceToNat, Int.reduceLE, Int.reduceLT, Int.reduceAdd, Int.reduceSub, Int.reduceEq, decide_eq_true_eq, decide_eq_false_iff_not, kill, SV.mentions, ne_eq, not_false_eq_true, not_true_eq_false, List.drop_zero, List.take_succ_cons, List.take_zero, dOk, ↓br_tt, ↓br_ff, ↓br_tf, ↓br_ft, br_t, br_f, Bool.bne_false, Bool.bne_true, GV.bldT, GV.bldC, gVec_get, gVec_set, gVec_arr, gVec_fits, gVec_sz, gVec_sameT, gVec_zero, gVec_isS, gVec2_get, gVec2_arr, gVec2_fits, gVec2_sz, gVec2_sameT, gVec2_zero, gVec2_set, same_int, getT_nil, setT_nil, getD_gi, List.length_map, fits_s, fits_c, fits_ar, arr_ar, get_nil, mkS_size, getD_gN, getD_gb, mkS_at, mkS_e0, mkS_e46, mkS_e4646, mkS_e47, mkS_ext, List.length_map]
  refine call_ism _ [.s (.int .i64 (wrongA (segs (p.drop 1))))] rfl rfl (fun w' vs hv' hw hph hm => ?_) ?_
  · obtain ⟨vs, rfl, _, hv'⟩ := argsV_g hv'
    obtain rfl := argsV_nil hv'
    exact wrong_spec w' v (segs (p.drop 1)) (by omega) (fun n hn => by have := segs_mem hn; omega) m' hm hv.toR
  simp (maxSteps := 2000000) only [retS, beq_iff_eq, beq_eq_false_iff_ne, bne_iff_ne, bne_eq_false_iff_eq, vc_skip, vc_ret, vc_exit, vc_seq, vc_block, vc_scope, scopeQ_n, scopeQ_r, scopeQ_e, vc_rg, vc_rgq, vc_rga, vc_ite, thenQ_n, thenQ_r, thenQ_e, blockQ_n, blockQ_r, blockQ_e, kKeep_eq, loopQ_r, loopQ_e, loopQ_n, finQ_r, finQ_n, segs_nil, segs_n, segs_g, ops_nil, ops_cons, qsegs_nil, qsegs_n, qsegs_g, qops_nil, qops_cons, ot_done, ot_op, ot_or, ot_held, oh_done, oh_op, oh_or, oh_first, oh_firstg, heldC_eq, heldF_eq, heldOk, heldK, ldH, heldM_self, heldM_one, heldM_two, heldM_three, List.contains_cons, List.contains_nil, Bool.or_false, Bool.or_true, Bool.true_or, Bool.false_or, vcqOp, vcOp, isRd, RO.isGh, skip_mk, skipL, ev, evL, gvL, scL, look, updL, put_mk, put_mk0, keep_mk, keepL, rowE, rowD, bndN, binV, binC, unV, GV.getT, GV.fld, GV.sz, GV.same, GV.setT, Value.oneCell', cond_true, cond_false, Nat.reduceEqDiff, Nat.reduceAdd, Nat.reduceMul, Nat.reduceSub, Nat.reduceBEq, Nat.reduceLeDiff, ↓reduceIte, reduceCtorEq, List.nil_append, List.cons_append, List.append_nil, Nat.zero_add, Nat.add_zero, Bool.and_true, Bool.true_and, Bool.not_true, Bool.not_false, BEq.rfl, decide_true, decide_false, true_and, and_true, initF, initP, List.map_cons, List.map_nil, Option.map_some, szAll, List.length_cons, List.length_nil, finW_r, finW_n, resL, resOne, Option.bind_some, true_imp_iff, false_imp_iff, Bool.true_eq_false, Bool.false_eq_true, Int.toNat_natCast, Int.reduceToNat, Int.reduceLE, Int.reduceLT, Int.reduceAdd, Int.reduceSub, Int.reduceEq, decide_eq_true_eq, decide_eq_false_iff_not, kill, SV.mentions, ne_eq, not_false_eq_true, not_true_eq_false, List.drop_zero, List.take_succ_cons, List.take_zero, dOk, ↓br_tt, ↓br_ff, ↓br_tf, ↓br_ft, br_t, br_f, Bool.bne_false, Bool.bne_true, GV.bldT, GV.bldC, gVec_get, gVec_set, gVec_arr, gVec_fits, gVec_sz, gVec_sameT, gVec_zero, gVec_isS, gVec2_get, gVec2_arr, gVec2_fits, gVec2_sz, gVec2_sameT, gVec2_zero, gVec2_set, same_int, getT_nil, setT_nil, getD_gi, List.length_map, fits_s, fits_c, fits_ar, arr_ar, get_nil, mkS_size, getD_gN, getD_gb, mkS_at, mkS_e0, mkS_e46, mkS_e4646, mkS_e47, mkS_ext, List.length_map]
  refine ⟨fun h3 => ?_, fun h3 => ?_⟩
  · rw [if_neg h3]
    exact fin_m PH.no rfl (fun _ _ h => by cases h) ⟨_, rfl, nil_O PH.no⟩
  · rw [if_pos h3]
    exact fin_m m' rfl (fun _ _ h => h) ⟨_, rfl, hv⟩

/-! ### The document's -/
structure CutI (r : List UInt8) (j f : Nat) (ds : List (List UInt8)) : Prop where
  jl : j ≤ r.length + 1
  on : j ≤ r.length → f ≤ j ∧ segs r = ds ++ segs (r.drop f) ∧ ∀ q, f ≤ q → q < j → r.getD q 0 ≠ 47
  off : j = r.length + 1 → segs r = ds
  names : ∀ n ∈ ds, nameA n = true

theorem drop_cut {r : List UInt8} {f j : Nat} (h : f ≤ j) (hj : j < r.length) : r.drop f = (r.drop f).take (j - f) ++ r.getD j 0 :: r.drop (j + 1) := by
  have h1 : r.drop j = r.getD j 0 :: r.drop (j + 1) := by
    rw [List.drop_eq_getElem_cons hj, List.getD_eq_getElem?_getD, List.getElem?_eq_getElem hj]; rfl
  have h2 : (r.drop f).drop (j - f) = r.drop j := by rw [List.drop_drop]; congr 1; omega
  conv => lhs; rw [← List.take_append_drop (j - f) (r.drop f), h2, h1]
theorem no47 {r : List UInt8} {f j : Nat} (h : ∀ q, f ≤ q → q < j → r.getD q 0 ≠ 47) : 47 ∉ (r.drop f).take (j - f) := by
  intro hm
  obtain ⟨q, hq, e⟩ := List.mem_iff_getElem.1 hm
  simp only [List.length_take, List.length_drop] at hq
  rw [List.getElem_take, List.getElem_drop] at e
  refine h (f + q) (by omega) (by omega) ?_
  rw [List.getD_eq_getElem?_getD, List.getElem?_eq_getElem (by omega)]
  simpa using e

theorem CutI.start (r : List UInt8) : CutI r 0 0 [] := ⟨by omega, fun _ => ⟨by omega, by simp, fun q _ hq => by omega⟩, fun h => by omega, fun n hn => by simp at hn⟩
theorem CutI.goes {r : List UInt8} {j f : Nat} {ds : List (List UInt8)} (h : CutI r j f ds) (hj : j < r.length) (hc : r.getD j 0 ≠ 47) : CutI r (j + 1) f ds := by
  obtain ⟨h1, h2, h3⟩ := h.on (by omega)
  refine ⟨by omega, fun _ => ⟨by omega, h2, fun q q1 q2 => ?_⟩, fun e => by omega, h.names⟩
  rcases Nat.lt_succ_iff_lt_or_eq.1 q2 with h4 | rfl
  · exact h3 q q1 h4
  · exact hc
theorem CutI.piece {r : List UInt8} {j f : Nat} {ds : List (List UInt8)} (h : CutI r j f ds) (hj : j ≤ r.length) (hc : j = r.length ∨ r.getD j 0 = 47) : (r.drop f).take (j - f) ∈ segs r ∧ (nameA ((r.drop f).take (j - f)) = true → CutI r (j + 1) (j + 1) (ds ++ [(r.drop f).take (j - f)])) := by
  obtain ⟨h1, h2, h3⟩ := h.on hj
  have hno := no47 h3
  rcases Nat.lt_or_ge j r.length with hl | hl
  · have hcc : r.getD j 0 = 47 := hc.resolve_left (by omega)
    have hd := drop_cut h1 hl
    rw [hcc] at hd
    have hs : segs (r.drop f) = (r.drop f).take (j - f) :: segs (r.drop (j + 1)) := by
      conv => lhs; rw [hd, segs_app _ _ hno]
    rw [hs] at h2
    refine ⟨by rw [h2]; simp, fun hn => ⟨by omega, fun _ => ⟨by omega, by rw [h2]; simp, fun q q1 q2 => by omega⟩, fun e => by omega, fun n hx => ?_⟩⟩
    rcases List.mem_append.1 hx with hx | hx
    · exact h.names n hx
    · simp only [List.mem_singleton] at hx; subst hx; exact hn
  · have hjl : j = r.length := by omega
    have ht : (r.drop f).take (j - f) = r.drop f := List.take_of_length_le (by simp; omega)
    rw [ht] at hno ⊢
    rw [segs_one _ hno] at h2
    refine ⟨by rw [h2]; simp, fun hn => ⟨by omega, fun e => by omega, fun _ => h2, fun n hx => ?_⟩⟩
    rcases List.mem_append.1 hx with hx | hx
    · exact h.names n hx
    · simp only [List.mem_singleton] at hx; subst hx; exact hn

theorem preS_cons {p : List UInt8} (h0 : p ≠ []) : preS p = (p.getD 0 0 == 47) := by
  cases p with
  | nil => exact absurd rfl h0
  | cons c r =>
    simp only [preS, List.take_succ_cons, List.take_zero, List.getD_cons_zero]
    by_cases h : c = 47
    · subst h; rfl
    · rw [show (c == 47) = false by simpa using h]; simpa using h

theorem refSplit_spec (w : World) (p : List UInt8) (hs : p.length < 4294967281) : Spec Tryd.prog f_ref20_Split [.string (mkS p)] PH.no w (SplitR (splitA p)) := by
  refine spec_of k_ref20_Split [.g (gN p)] (by simp) (by simp [AV.ok, gN_ok]) ?_
  simp (maxSteps := 2000000) only [c_ref20_Split, gN, vc_skip, vc_ret, vc_exit, vc_seq, vc_block, vc_scope, scopeQ_n, scopeQ_r, scopeQ_e, vc_rg, vc_rgq, vc_rga, vc_ite, thenQ_n, thenQ_r, thenQ_e, blockQ_n, blockQ_r, blockQ_e, kKeep_eq, loopQ_r, loopQ_e, loopQ_n, finQ_r, finQ_n, segs_nil, segs_n, segs_g, ops_nil, ops_cons, qsegs_nil, qsegs_n, qsegs_g, qops_nil, qops_cons, ot_done, ot_op, ot_or, ot_held, oh_done, oh_op, oh_or, oh_first, oh_firstg, heldC_eq, heldF_eq, heldOk, heldK, ldH, heldM_self, heldM_one, heldM_two, heldM_three, List.contains_cons, List.contains_nil, Bool.or_false, Bool.or_true, Bool.true_or, Bool.false_or, vcqOp, vcOp, isRd, RO.isGh, skip_mk, skipL, ev, evL, gvL, scL, look, updL, put_mk, put_mk0, keep_mk, keepL, rowE, rowD, bndN, binV, binC, unV, GV.getT, GV.fld, GV.sz, GV.same, GV.setT, Value.oneCell', cond_true, cond_false, Nat.reduceEqDiff, Nat.reduceAdd, Nat.reduceMul, Nat.reduceSub, Nat.reduceBEq, Nat.reduceLeDiff, ↓reduceIte, reduceCtorEq, List.nil_append, List.cons_append, List.append_nil, Nat.zero_add, Nat.add_zero, Bool.and_true, Bool.true_and, Bool.not_true, Bool.not_false, BEq.rfl, decide_true, decide_false, true_and, and_true, initF, initP, List.map_cons, List.map_nil, Option.map_some, szAll, List.length_cons, List.length_nil, finW_r, finW_n, resL, resOne, Option.bind_some, true_imp_iff, false_imp_iff, Bool.true_eq_false, Bool.false_eq_true, Int.toNat_natCast, Int.reduceToNat, Int.reduceLE, Int.reduceLT, Int.reduceAdd, Int.reduceSub, Int.reduceEq, decide_eq_true_eq, decide_eq_false_iff_not, kill, SV.mentions, ne_eq, not_false_eq_true, not_true_eq_false, List.drop_zero, List.take_succ_cons, List.take_zero, dOk, ↓br_tt, ↓br_ff, ↓br_tf, ↓br_ft, br_t, br_f, Bool.bne_false, Bool.bne_true, GV.bldT, GV.bldC, gVec_get, gVec_set, gVec_arr, gVec_fits, gVec_sz, gVec_sameT, gVec_zero, gVec_isS, gVec2_get, gVec2_arr, gVec2_fits, gVec2_sz, gVec2_sameT, gVec2_zero, gVec2_set, same_int, getT_nil, setT_nil, getD_gi, List.length_map, fits_s, fits_c, fits_ar, arr_ar, get_nil, mkS_size, getD_gN, getD_gb, mkS_at, mkS_e0, mkS_e46, mkS_e4646, mkS_e47, mkS_ext, List.length_map]
  have nope : ∀ {C : Ctx} (σ : SS) (e : Int), splitA p = ([], e) → resL σ [.tmp 2, .tmp 3] = some [.s (.slice none 0 0), .s (.int .i64 e)] → Fin C [.tmp 2, .tmp 3] (SplitR (splitA p)) σ := by
    intro C σ e he hr
    rw [he]
    exact fin_m PH.no hr (fun _ _ h => by cases h) ⟨_, rfl, nil_O PH.no⟩
  refine ⟨fun h0 => ⟨?_, fun h1 => ?_, fun h1 => ⟨fun h2 => ?_, fun h2 => ?_⟩⟩, fun h0 => ?_⟩
  · have : p.length ≠ 0 := fun e => h0 (List.length_eq_zero_iff.mp e)
    omega
  · refine nope _ 200 (splitA_no (fun e => ?_) ?_) rfl
    · subst e; simp at h1
    · rw [preS_cons h0]
      rw [bne_iff_ne] at h1
      have := byte47 (p.getD 0 0)
      rw [← this]
      simpa using h1
  · subst h2; exact nope _ 0 rfl rfl
  rotate_left
  · subst h0; exact nope _ 200 rfl rfl
  have hpre : preS p = true := by
    rw [preS_cons h0]
    rw [bne_eq_false_iff_eq] at h1
    rw [← byte47, h1]; rfl
  obtain ⟨r, rfl⟩ : ∃ r, p = 47 :: r := by
    cases p with
    | nil => exact absurd rfl h0
    | cons c r =>
      have : c = 47 := by simpa [preS] using hpre
      exact ⟨r, by rw [this]⟩
  have hsp := splitA_yes h2 hpre
  simp only [List.drop_succ_cons, List.drop_zero] at hsp
  have hsl := segs_len r
  simp only [List.length_cons] at hs
  refine gh_nil 4 4 9 1 (.s (.string ⟨#[]⟩)) rfl rfl ?_
  simp (maxSteps := 2000000) only [vc_skip, vc_ret, vc_exit, vc_seq, vc_block, vc_scope, scopeQ_n, scopeQ_r, scopeQ_e, vc_rg, vc_rgq, vc_rga, vc_ite, thenQ_n, thenQ_r, thenQ_e, blockQ_n, blockQ_r, blockQ_e, kKeep_eq, loopQ_r, loopQ_e, loopQ_n, finQ_r, finQ_n, segs_nil, segs_n, segs_g, ops_nil, ops_cons, qsegs_nil, qsegs_n, qsegs_g, qops_nil, qops_cons, ot_done, ot_op, ot_or, ot_held, oh_done, oh_op, oh_or, oh_first, oh_firstg, heldC_eq, heldF_eq, heldOk, heldK, ldH, heldM_self, heldM_one, heldM_two, heldM_three, List.contains_cons, List.contains_nil, Bool.or_false, Bool.or_true, Bool.true_or, Bool.false_or, vcqOp, vcOp, isRd, RO.isGh, skip_mk, skipL, ev, evL, gvL, scL, look, updL, put_mk, put_mk0, keep_mk, keepL, rowE, rowD, bndN, binV, binC, unV, GV.getT, GV.fld, GV.sz, GV.same, GV.setT, Value.oneCell', cond_true, cond_false, Nat.reduceEqDiff, Nat.reduceAdd, Nat.reduceMul, Nat.reduceSub, Nat.reduceBEq, Nat.reduceLeDiff, ↓reduceIte, reduceCtorEq, List.nil_append, List.cons_append, List.append_nil, Nat.zero_add, Nat.add_zero, Bool.and_true, Bool.true_and, Bool.not_true, Bool.not_false, BEq.rfl, decide_true, decide_false, true_and, and_true, initF, initP, List.map_cons, List.map_nil, Option.map_some, szAll, List.length_cons, List.length_nil, finW_r, finW_n, resL, resOne, Option.bind_some, true_imp_iff, false_imp_iff, Bool.true_eq_false, Bool.false_eq_true, Int.toNat_natCast, Int.reduceToNat, Int.reduceLE, Int.reduceLT, Int.reduceAdd, Int.reduceSub, Int.reduceEq, decide_eq_true_eq, decide_eq_false_iff_not, kill, SV.mentions, ne_eq, not_false_eq_true, not_true_eq_false, List.drop_zero, List.take_succ_cons, List.take_zero, dOk, ↓br_tt, ↓br_ff, ↓br_tf, ↓br_ft, br_t, br_f, Bool.bne_false, Bool.bne_true, GV.bldT, GV.bldC, gVec_get, gVec_set, gVec_arr, gVec_fits, gVec_sz, gVec_sameT, gVec_zero, gVec_isS, gVec2_get, gVec2_arr, gVec2_fits, gVec2_sz, gVec2_sameT, gVec2_zero, gVec2_set, same_int, getT_nil, setT_nil, getD_gi, List.length_map, fits_s, fits_c, fits_ar, arr_ar, get_nil, mkS_size, getD_gN, getD_gb, mkS_at, mkS_e0, mkS_e46, mkS_e4646, mkS_e47, mkS_ext, List.length_map]
  refine vc_loop (ι := Nat × Nat × List (List UInt8)) (fun q => ⟨[(0, .g (.s (.string (mkS (47 :: r))))), (4, .row 4 0 (q.2.2.length)), (5, .g (.s (.int .i64 (q.2.1 + 1 : Nat)))), (6, .g (.s (.int .i64 (q.1 + 1 : Nat))))], [(4, .row 9 1 (.s (.string ⟨#[]⟩)) (q.2.2.map gN))], [], PH.no⟩)
    (fun q => CutI r q.1 q.2.1 q.2.2 ∧ q.2.2.length ≤ q.1) (fun q => r.length + 1 - q.1) (0, 0, []) ⟨CutI.start r, by simp⟩ (ge_of ?_ ?_ rfl rfl rfl) ?_
  · simp [frIn, look]
  · simp [pvIn, look]
  rintro ⟨j, f, ds⟩ ⟨hc, hdl⟩
  simp only at hc hdl
  have hjl := hc.jl
  generalize hQ : loopQ _ _ _ _ _ = Q
  simp (maxSteps := 2000000) only [c_ref20_Split_L0, List.length_cons, vc_skip, vc_ret, vc_exit, vc_seq, vc_block, vc_scope, scopeQ_n, scopeQ_r, scopeQ_e, vc_rg, vc_rgq, vc_rga, vc_ite, thenQ_n, thenQ_r, thenQ_e, blockQ_n, blockQ_r, blockQ_e, kKeep_eq, loopQ_r, loopQ_e, loopQ_n, finQ_r, finQ_n, segs_nil, segs_n, segs_g, ops_nil, ops_cons, qsegs_nil, qsegs_n, qsegs_g, qops_nil, qops_cons, ot_done, ot_op, ot_or, ot_held, oh_done, oh_op, oh_or, oh_first, oh_firstg, heldC_eq, heldF_eq, heldOk, heldK, ldH, heldM_self, heldM_one, heldM_two, heldM_three, List.contains_cons, List.contains_nil, Bool.or_false, Bool.or_true, Bool.true_or, Bool.false_or, vcqOp, vcOp, isRd, RO.isGh, skip_mk, skipL, ev, evL, gvL, scL, look, updL, put_mk, put_mk0, keep_mk, keepL, rowE, rowD, bndN, binV, binC, unV, GV.getT, GV.fld, GV.sz, GV.same, GV.setT, Value.oneCell', cond_true, cond_false, Nat.reduceEqDiff, Nat.reduceAdd, Nat.reduceMul, Nat.reduceSub, Nat.reduceBEq, Nat.reduceLeDiff, ↓reduceIte, reduceCtorEq, List.nil_append, List.cons_append, List.append_nil, Nat.zero_add, Nat.add_zero, Bool.and_true, Bool.true_and, Bool.not_true, Bool.not_false, BEq.rfl, decide_true, decide_false, true_and, and_true, initF, initP, List.map_cons, List.map_nil, Option.map_some, szAll, List.length_cons, List.length_nil, finW_r, finW_n, resL, resOne, Option.bind_some, true_imp_iff, false_imp_iff, Bool.true_eq_false, Bool.false_eq_true, Int.toNat_natCast, Int.reduceToNat, Int.reduceLE, Int.reduceLT, Int.reduceAdd, Int.reduceSub, Int.reduceEq, decide_eq_true_eq, decide_eq_false_iff_not, kill, SV.mentions, ne_eq, not_false_eq_true, not_true_eq_false, List.drop_zero, List.take_succ_cons, List.take_zero, dOk, ↓br_tt, ↓br_ff, ↓br_tf, ↓br_ft, br_t, br_f, Bool.bne_false, Bool.bne_true, GV.bldT, GV.bldC, gVec_get, gVec_set, gVec_arr, gVec_fits, gVec_sz, gVec_sameT, gVec_zero, gVec_isS, gVec2_get, gVec2_arr, gVec2_fits, gVec2_sz, gVec2_sameT, gVec2_zero, gVec2_set, same_int, getT_nil, setT_nil, getD_gi, List.length_map, fits_s, fits_c, fits_ar, arr_ar, get_nil, mkS_size, getD_gN, getD_gb, mkS_at, mkS_e0, mkS_e46, mkS_e4646, mkS_e47, mkS_ext, List.length_map]
  have ecut : List.take (j + 1 - (f + 1)) (List.drop (f + 1) (47 :: r)) = (r.drop f).take (j - f) := by
    rw [List.drop_succ_cons]; congr 1; omega
  have hlp : ((r.drop f).take (j - f)).length ≤ r.length := by simp; omega
  have hget : (47 :: r).getD (j + 1) 0 = r.getD j 0 := rfl
  rw [ecut, hget]
  refine ⟨fun hle => ⟨fun hlt => ⟨by omega, fun hne => ?_, fun heq => ?_⟩, fun hge => ?_⟩, fun hgt => ?_⟩
  · rw [bne_iff_ne] at hne
    have hn47 : r.getD j 0 ≠ 47 := fun e => hne (by rw [e]; rfl)
    subst hQ; simp only [loopQ_n]; refine ⟨(j + 1, f, ds), ?_, ?_, ge_of ?_ ?_ rfl rfl rfl⟩
    · exact ⟨hc.goes (by omega) hn47, by simp only; omega⟩
    · simp only; omega
    · simp only [frIn, vc_skip, vc_ret, vc_exit, vc_seq, vc_block, vc_scope, scopeQ_n, scopeQ_r, scopeQ_e, vc_rg, vc_rgq, vc_rga, vc_ite, thenQ_n, thenQ_r, thenQ_e, blockQ_n, blockQ_r, blockQ_e, kKeep_eq, loopQ_r, loopQ_e, loopQ_n, finQ_r, finQ_n, segs_nil, segs_n, segs_g, ops_nil, ops_cons, qsegs_nil, qsegs_n, qsegs_g, qops_nil, qops_cons, ot_done, ot_op, ot_or, ot_held, oh_done, oh_op, oh_or, oh_first, oh_firstg, heldC_eq, heldF_eq, heldOk, heldK, ldH, heldM_self, heldM_one, heldM_two, heldM_three, List.contains_cons, List.contains_nil, Bool.or_false, Bool.or_true, Bool.true_or, Bool.false_or, vcqOp, vcOp, isRd, RO.isGh, skip_mk, skipL, ev, evL, gvL, scL, look, updL, put_mk, put_mk0, keep_mk, keepL, rowE, rowD, bndN, binV, binC, unV, GV.getT, GV.fld, GV.sz, GV.same, GV.setT, Value.oneCell', cond_true, cond_false, Nat.reduceEqDiff, Nat.reduceAdd, Nat.reduceMul, Nat.reduceSub, Nat.reduceBEq, Nat.reduceLeDiff, ↓reduceIte, reduceCtorEq, List.nil_append, List.cons_append, List.append_nil, Nat.zero_add, Nat.add_zero, Bool.and_true, Bool.true_and, Bool.not_true, Bool.not_false, BEq.rfl, decide_true, decide_false, true_and, and_true, initF, initP, List.map_cons, List.map_nil, Option.map_some, szAll, List.length_cons, List.length_nil, finW_r, finW_n, resL, resOne, Option.bind_some, true_imp_iff, false_imp_iff, Bool.true_eq_false, Bool.false_eq_true, Int.toNat_natCast, Int.reduceToNat, Int.reduceLE, Int.reduceLT, Int.reduceAdd, Int.reduceSub, Int.reduceEq, decide_eq_true_eq, decide_eq_false_iff_not, kill, SV.mentions, ne_eq, not_false_eq_true, not_true_eq_false, List.drop_zero, List.take_succ_cons, List.take_zero, dOk, ↓br_tt, ↓br_ff, ↓br_tf, ↓br_ft, br_t, br_f, Bool.bne_false, Bool.bne_true, GV.bldT, GV.bldC]
      rw [wrap_n (by omega)]
      try simp
    · simp [pvIn, look]
  rotate_left 2
  · subst hQ
    have hj : j = r.length + 1 := by omega
    have hds := hc.off hj
    have hall : ∀ n ∈ segs r, nameA n = true := by rw [hds]; exact hc.names
    have hw : wrongA (segs r) = if (segs r).length > 64 then 3 else 0 := by
      unfold wrongA
      rw [if_pos (by simpa using hall)]
    simp (maxSteps := 2000000) only [vc_skip, vc_ret, vc_exit, vc_seq, vc_block, vc_scope, scopeQ_n, scopeQ_r, scopeQ_e, vc_rg, vc_rgq, vc_rga, vc_ite, thenQ_n, thenQ_r, thenQ_e, blockQ_n, blockQ_r, blockQ_e, kKeep_eq, loopQ_r, loopQ_e, loopQ_n, finQ_r, finQ_n, segs_nil, segs_n, segs_g, ops_nil, ops_cons, qsegs_nil, qsegs_n, qsegs_g, qops_nil, qops_cons, ot_done, ot_op, ot_or, ot_held, oh_done, oh_op, oh_or, oh_first, oh_firstg, heldC_eq, heldF_eq, heldOk, heldK, ldH, heldM_self, heldM_one, heldM_two, heldM_three, List.contains_cons, List.contains_nil, Bool.or_false, Bool.or_true, Bool.true_or, Bool.false_or, vcqOp, vcOp, isRd, RO.isGh, skip_mk, skipL, ev, evL, gvL, scL, look, updL, put_mk, put_mk0, keep_mk, keepL, rowE, rowD, bndN, binV, binC, unV, GV.getT, GV.fld, GV.sz, GV.same, GV.setT, Value.oneCell', cond_true, cond_false, Nat.reduceEqDiff, Nat.reduceAdd, Nat.reduceMul, Nat.reduceSub, Nat.reduceBEq, Nat.reduceLeDiff, ↓reduceIte, reduceCtorEq, List.nil_append, List.cons_append, List.append_nil, Nat.zero_add, Nat.add_zero, Bool.and_true, Bool.true_and, Bool.not_true, Bool.not_false, BEq.rfl, decide_true, decide_false, true_and, and_true, initF, initP, List.map_cons, List.map_nil, Option.map_some, szAll, List.length_cons, List.length_nil, finW_r, finW_n, resL, resOne, Option.bind_some, true_imp_iff, false_imp_iff, Bool.true_eq_false, Bool.false_eq_true, Int.toNat_natCast, Int.reduceToNat, Int.reduceLE, Int.reduceLT, Int.reduceAdd, Int.reduceSub, Int.reduceEq, decide_eq_true_eq, decide_eq_false_iff_not, kill, SV.mentions, ne_eq, not_false_eq_true, not_true_eq_false, List.drop_zero, List.take_succ_cons, List.take_zero, dOk, ↓br_tt, ↓br_ff, ↓br_tf, ↓br_ft, br_t, br_f, Bool.bne_false, Bool.bne_true, GV.bldT, GV.bldC, gVec_get, gVec_set, gVec_arr, gVec_fits, gVec_sz, gVec_sameT, gVec_zero, gVec_isS, gVec2_get, gVec2_arr, gVec2_fits, gVec2_sz, gVec2_sameT, gVec2_zero, gVec2_set, same_int, getT_nil, setT_nil, getD_gi, List.length_map, fits_s, fits_c, fits_ar, arr_ar, get_nil, mkS_size, getD_gN, getD_gb, mkS_at, mkS_e0, mkS_e46, mkS_e4646, mkS_e47, mkS_ext, List.length_map]
    have hlen : (segs r).length = ds.length := by rw [hds]
    refine ⟨fun h64 => ?_, fun h64 => ?_⟩
    · rw [if_pos (by omega)] at hw
      rw [hw, if_neg (by decide)] at hsp
      exact nope _ 3 hsp rfl
    · rw [if_neg (by omega)] at hw
      rw [hw, if_pos rfl, hds] at hsp
      refine gh_pub 2 4 ds.length rfl rfl (by simp) fun v u hv ho hd => ?_
      simp (maxSteps := 2000000) only [vc_skip, vc_ret, vc_exit, vc_seq, vc_block, vc_scope, scopeQ_n, scopeQ_r, scopeQ_e, vc_rg, vc_rgq, vc_rga, vc_ite, thenQ_n, thenQ_r, thenQ_e, blockQ_n, blockQ_r, blockQ_e, kKeep_eq, loopQ_r, loopQ_e, loopQ_n, finQ_r, finQ_n, segs_nil, segs_n, segs_g, ops_nil, ops_cons, qsegs_nil, qsegs_n, qsegs_g, qops_nil, qops_cons, ot_done, ot_op, ot_or, ot_held, oh_done, oh_op, oh_or, oh_first, oh_firstg, heldC_eq, heldF_eq, heldOk, heldK, ldH, heldM_self, heldM_one, heldM_two, heldM_three, List.contains_cons, List.contains_nil, Bool.or_false, Bool.or_true, Bool.true_or, Bool.false_or, vcqOp, vcOp, isRd, RO.isGh, skip_mk, skipL, ev, evL, gvL, scL, look, updL, put_mk, put_mk0, keep_mk, keepL, rowE, rowD, bndN, binV, binC, unV, GV.getT, GV.fld, GV.sz, GV.same, GV.setT, Value.oneCell', cond_true, cond_false, Nat.reduceEqDiff, Nat.reduceAdd, Nat.reduceMul, Nat.reduceSub, Nat.reduceBEq, Nat.reduceLeDiff, ↓reduceIte, reduceCtorEq, List.nil_append, List.cons_append, List.append_nil, Nat.zero_add, Nat.add_zero, Bool.and_true, Bool.true_and, Bool.not_true, Bool.not_false, BEq.rfl, decide_true, decide_false, true_and, and_true, initF, initP, List.map_cons, List.map_nil, Option.map_some, szAll, List.length_cons, List.length_nil, finW_r, finW_n, resL, resOne, Option.bind_some, true_imp_iff, false_imp_iff, Bool.true_eq_false, Bool.false_eq_true, Int.toNat_natCast, Int.reduceToNat, Int.reduceLE, Int.reduceLT, Int.reduceAdd, Int.reduceSub, Int.reduceEq, decide_eq_true_eq, decide_eq_false_iff_not, kill, SV.mentions, ne_eq, not_false_eq_true, not_true_eq_false, List.drop_zero, List.take_succ_cons, List.take_zero, dOk, ↓br_tt, ↓br_ff, ↓br_tf, ↓br_ft, br_t, br_f, Bool.bne_false, Bool.bne_true, GV.bldT, GV.bldC, gVec_get, gVec_set, gVec_arr, gVec_fits, gVec_sz, gVec_sameT, gVec_zero, gVec_isS, gVec2_get, gVec2_arr, gVec2_fits, gVec2_sz, gVec2_sameT, gVec2_zero, gVec2_set, same_int, getT_nil, setT_nil, getD_gi, List.length_map, fits_s, fits_c, fits_ar, arr_ar, get_nil, mkS_size, getD_gN, getD_gb, mkS_at, mkS_e0, mkS_e46, mkS_e4646, mkS_e47, mkS_ext, List.length_map]
      refine fin_m u rfl (by rw [uni_no_r]; exact fun _ _ h => h) ?_
      rw [hsp]
      exact ⟨v, rfl, ho⟩
  all_goals
    have hcond : j = r.length ∨ r.getD j 0 = 47 := by
      first
        | (left; omega)
        | (right; rw [bne_eq_false_iff_eq] at heq
           have := byte47 (r.getD j 0)
           rw [heq] at this
           simpa using this)
    obtain ⟨hp1, hp2⟩ := hc.piece (by omega) hcond
    obtain ⟨hfj, _, _⟩ := hc.on (by omega)
    generalize hpc : (r.drop f).take (j - f) = pc at *
    refine ⟨by omega, ?_⟩
    refine call_fnv (ref_Name_fn pc (by omega)) rfl rfl rfl fun _ => ?_
    simp (maxSteps := 2000000) only [retS, vc_skip, vc_ret, vc_exit, vc_seq, vc_block, vc_scope, scopeQ_n, scopeQ_r, scopeQ_e, vc_rg, vc_rgq, vc_rga, vc_ite, thenQ_n, thenQ_r, thenQ_e, blockQ_n, blockQ_r, blockQ_e, kKeep_eq, loopQ_r, loopQ_e, loopQ_n, finQ_r, finQ_n, segs_nil, segs_n, segs_g, ops_nil, ops_cons, qsegs_nil, qsegs_n, qsegs_g, qops_nil, qops_cons, ot_done, ot_op, ot_or, ot_held, oh_done, oh_op, oh_or, oh_first, oh_firstg, heldC_eq, heldF_eq, heldOk, heldK, ldH, heldM_self, heldM_one, heldM_two, heldM_three, List.contains_cons, List.contains_nil, Bool.or_false, Bool.or_true, Bool.true_or, Bool.false_or, vcqOp, vcOp, isRd, RO.isGh, skip_mk, skipL, ev, evL, gvL, scL, look, updL, put_mk, put_mk0, keep_mk, keepL, rowE, rowD, bndN, binV, binC, unV, GV.getT, GV.fld, GV.sz, GV.same, GV.setT, Value.oneCell', cond_true, cond_false, Nat.reduceEqDiff, Nat.reduceAdd, Nat.reduceMul, Nat.reduceSub, Nat.reduceBEq, Nat.reduceLeDiff, ↓reduceIte, reduceCtorEq, List.nil_append, List.cons_append, List.append_nil, Nat.zero_add, Nat.add_zero, Bool.and_true, Bool.true_and, Bool.not_true, Bool.not_false, BEq.rfl, decide_true, decide_false, true_and, and_true, initF, initP, List.map_cons, List.map_nil, Option.map_some, szAll, List.length_cons, List.length_nil, finW_r, finW_n, resL, resOne, Option.bind_some, true_imp_iff, false_imp_iff, Bool.true_eq_false, Bool.false_eq_true, Int.toNat_natCast, Int.reduceToNat, Int.reduceLE, Int.reduceLT, Int.reduceAdd, Int.reduceSub, Int.reduceEq, decide_eq_true_eq, decide_eq_false_iff_not, kill, SV.mentions, ne_eq, not_false_eq_true, not_true_eq_false, List.drop_zero, List.take_succ_cons, List.take_zero, dOk, ↓br_tt, ↓br_ff, ↓br_tf, ↓br_ft, br_t, br_f, Bool.bne_false, Bool.bne_true, GV.bldT, GV.bldC, gVec_get, gVec_set, gVec_arr, gVec_fits, gVec_sz, gVec_sameT, gVec_zero, gVec_isS, gVec2_get, gVec2_arr, gVec2_fits, gVec2_sz, gVec2_sameT, gVec2_zero, gVec2_set, same_int, getT_nil, setT_nil, getD_gi, List.length_map, fits_s, fits_c, fits_ar, arr_ar, get_nil, mkS_size, getD_gN, getD_gb, mkS_at, mkS_e0, mkS_e46, mkS_e4646, mkS_e47, mkS_ext, List.length_map]
    refine ⟨fun hbad => ?_, fun hgood => ?_⟩
    · subst hQ
      simp (maxSteps := 2000000) only [vc_skip, vc_ret, vc_exit, vc_seq, vc_block, vc_scope, scopeQ_n, scopeQ_r, scopeQ_e, vc_rg, vc_rgq, vc_rga, vc_ite, thenQ_n, thenQ_r, thenQ_e, blockQ_n, blockQ_r, blockQ_e, kKeep_eq, loopQ_r, loopQ_e, loopQ_n, finQ_r, finQ_n, segs_nil, segs_n, segs_g, ops_nil, ops_cons, qsegs_nil, qsegs_n, qsegs_g, qops_nil, qops_cons, ot_done, ot_op, ot_or, ot_held, oh_done, oh_op, oh_or, oh_first, oh_firstg, heldC_eq, heldF_eq, heldOk, heldK, ldH, heldM_self, heldM_one, heldM_two, heldM_three, List.contains_cons, List.contains_nil, Bool.or_false, Bool.or_true, Bool.true_or, Bool.false_or, vcqOp, vcOp, isRd, RO.isGh, skip_mk, skipL, ev, evL, gvL, scL, look, updL, put_mk, put_mk0, keep_mk, keepL, rowE, rowD, bndN, binV, binC, unV, GV.getT, GV.fld, GV.sz, GV.same, GV.setT, Value.oneCell', cond_true, cond_false, Nat.reduceEqDiff, Nat.reduceAdd, Nat.reduceMul, Nat.reduceSub, Nat.reduceBEq, Nat.reduceLeDiff, ↓reduceIte, reduceCtorEq, List.nil_append, List.cons_append, List.append_nil, Nat.zero_add, Nat.add_zero, Bool.and_true, Bool.true_and, Bool.not_true, Bool.not_false, BEq.rfl, decide_true, decide_false, true_and, and_true, initF, initP, List.map_cons, List.map_nil, Option.map_some, szAll, List.length_cons, List.length_nil, finW_r, finW_n, resL, resOne, Option.bind_some, true_imp_iff, false_imp_iff, Bool.true_eq_false, Bool.false_eq_true, Int.toNat_natCast, Int.reduceToNat, Int.reduceLE, Int.reduceLT, Int.reduceAdd, Int.reduceSub, Int.reduceEq, decide_eq_true_eq, decide_eq_false_iff_not, kill, SV.mentions, ne_eq, not_false_eq_true, not_true_eq_false, List.drop_zero, List.take_succ_cons, List.take_zero, dOk, ↓br_tt, ↓br_ff, ↓br_tf, ↓br_ft, br_t, br_f, Bool.bne_false, Bool.bne_true, GV.bldT, GV.bldC, gVec_get, gVec_set, gVec_arr, gVec_fits, gVec_sz, gVec_sameT, gVec_zero, gVec_isS, gVec2_get, gVec2_arr, gVec2_fits, gVec2_sz, gVec2_sameT, gVec2_zero, gVec2_set, same_int, getT_nil, setT_nil, getD_gi, List.length_map, fits_s, fits_c, fits_ar, arr_ar, get_nil, mkS_size, getD_gN, getD_gb, mkS_at, mkS_e0, mkS_e46, mkS_e4646, mkS_e47, mkS_ext, List.length_map]
      have hw : wrongA (segs r) = 200 := by
        unfold wrongA
        rw [if_neg]
        intro ha
        have := List.all_eq_true.1 ha pc hp1
        rw [this] at hbad; cases hbad
      rw [hw, if_neg (by omega)] at hsp
      exact nope _ 200 hsp rfl
    · refine ⟨by omega, ?_⟩
      rw [ecut]
      refine ⟨by omega, ?_⟩
      subst hQ; simp only [loopQ_n]; refine ⟨(j + 1, j + 1, ds ++ [pc]), ?_, ?_, ge_of ?_ ?_ rfl rfl rfl⟩
      · exact ⟨hp2 (by simpa using hgood), by simp; omega⟩
      · simp only; omega
      · simp only [frIn, vc_skip, vc_ret, vc_exit, vc_seq, vc_block, vc_scope, scopeQ_n, scopeQ_r, scopeQ_e, vc_rg, vc_rgq, vc_rga, vc_ite, thenQ_n, thenQ_r, thenQ_e, blockQ_n, blockQ_r, blockQ_e, kKeep_eq, loopQ_r, loopQ_e, loopQ_n, finQ_r, finQ_n, segs_nil, segs_n, segs_g, ops_nil, ops_cons, qsegs_nil, qsegs_n, qsegs_g, qops_nil, qops_cons, ot_done, ot_op, ot_or, ot_held, oh_done, oh_op, oh_or, oh_first, oh_firstg, heldC_eq, heldF_eq, heldOk, heldK, ldH, heldM_self, heldM_one, heldM_two, heldM_three, List.contains_cons, List.contains_nil, Bool.or_false, Bool.or_true, Bool.true_or, Bool.false_or, vcqOp, vcOp, isRd, RO.isGh, skip_mk, skipL, ev, evL, gvL, scL, look, updL, put_mk, put_mk0, keep_mk, keepL, rowE, rowD, bndN, binV, binC, unV, GV.getT, GV.fld, GV.sz, GV.same, GV.setT, Value.oneCell', cond_true, cond_false, Nat.reduceEqDiff, Nat.reduceAdd, Nat.reduceMul, Nat.reduceSub, Nat.reduceBEq, Nat.reduceLeDiff, ↓reduceIte, reduceCtorEq, List.nil_append, List.cons_append, List.append_nil, Nat.zero_add, Nat.add_zero, Bool.and_true, Bool.true_and, Bool.not_true, Bool.not_false, BEq.rfl, decide_true, decide_false, true_and, and_true, initF, initP, List.map_cons, List.map_nil, Option.map_some, szAll, List.length_cons, List.length_nil, finW_r, finW_n, resL, resOne, Option.bind_some, true_imp_iff, false_imp_iff, Bool.true_eq_false, Bool.false_eq_true, Int.toNat_natCast, Int.reduceToNat, Int.reduceLE, Int.reduceLT, Int.reduceAdd, Int.reduceSub, Int.reduceEq, decide_eq_true_eq, decide_eq_false_iff_not, kill, SV.mentions, ne_eq, not_false_eq_true, not_true_eq_false, List.drop_zero, List.take_succ_cons, List.take_zero, dOk, ↓br_tt, ↓br_ff, ↓br_tf, ↓br_ft, br_t, br_f, Bool.bne_false, Bool.bne_true, GV.bldT, GV.bldC]
        rw [wrap_n (by omega)]
        try simp
      · simp [pvIn, look, gN]
end Go.Proofs.YtgjgbpnjodhhiaaDoor.Vc
