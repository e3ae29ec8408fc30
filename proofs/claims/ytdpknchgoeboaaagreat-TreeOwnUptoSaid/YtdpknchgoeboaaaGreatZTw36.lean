/- TreeOwn: where what is read is of bulk at most the row's bound, the law answers true and leaves its arguments as they were. -/
import Derived.Test.YtdpknchgoeboaaaGreatZTw35
/- TreeOwn, the walk. -/
set_option linter.unusedVariables false
set_option linter.unusedSimpArgs false
set_option maxRecDepth 100000
namespace Go.Proofs.YtdpknchgoeboaaaGreat.Vc
open Go Go.Proofs

theorem childA_few {T : PT} {k : Nat} (hok : T.ok k) (hkd : T.kidsOk) (hk : k ≤ 1099511627770) (n : Int) : (childA T n).length ≤ 1099511627776 := by
  have hm := hok.many
  cases hx : T.get n with
  | none => rw [childA_none hx]; simp
  | some x =>
    have := kids_few hkd hx
    rw [childA_get hx, sortCh_len, List.length_map]
    omega
theorem nodeAny {w : World} {u : PH} {L : Lay} {T : PT} {k : Nat} (hu : u.le w) (hT : TM u L T) (hok : T.ok k) (hk : k ≤ 1099511627770) (n : Int) :
    Spec Tryz.prog f_tree_Tree_Node [ptr (L .t), .int .i64 n] PH.no w fun rs m' => ∃ t bb n, rs = [gTreeNode t, .s (.bool bb)] ∧ n ≤ 1099511627776 ∧ AnyA m' t.attrs n := by
  refine (Node_spec hu hT n ((ok_tells hok (by omega)).small n)).mono fun rs m' h => ?_
  cases hx : T.get n with
  | none => exact ⟨zTreeNode, false, 0, h.1 hx, by omega, [], rfl, SlO.nil _ _ _⟩
  | some x =>
    obtain ⟨v, e1, e2⟩ := h.2 x hx
    refine ⟨_, true, _, e1, ?_, attrsOf x, rfl, e2⟩
    have := (hok.attrs n x hx).2
    rw [attrsOf, List.length_map]
    have h2 : (attrKeys x).length ≤ x.attrs.length := by simp [attrKeys, sortB]
    omega
theorem own12_spec (w : World) (va vb : Value) (ops : List Op) (tb : List TreeNode) (lb : List TN) (u : PH) (hu : u.le w) (hc : SlR u va 8 (ops.map gOp)) (hl : ops.length ≤ 1048576) (ho : ∀ op ∈ ops, OpOk op) (hb : RowsIn u vb tb lb 1048576) :
    Spec Tryz.prog f_law12_TreeOwn [va, vb] PH.no w fun rs _ => rs = [.s (.bool true)] := by
  refine spec_val k_law12_TreeOwn (Qf := fun rs => rs = [.s (.bool true)]) [.ro va 8 (gOp zOp) (ops.map gOp), .ro vb 4 (gTreeNode zTreeNode) (tb.map gTreeNode)] (by simp) (by simpa [AV.ok, u0_no] using ⟨hc.up hu.sub, hb.rows.up hu.sub⟩) ?_
  have hlb := hb.told.len
  have hfb := hb.few
  simp (maxSteps := 2000000) only [c_law12_TreeOwn, vc_seq, vc_rg, thenQ_n, kKeep_eq, segs_nil, segs_n, ops_nil, ops_cons, vcOp, ev, look, put_mk, keep_mk, keepL, Value.oneCell', cond_true, Nat.reduceEqDiff, ↓reduceIte, reduceCtorEq, Nat.zero_add, initF, initP, List.length_map]
  refine call_frz (dOk_spec rfl) rfl (Q := fun rs m' => ∃ L T v, rs = [.s (ptr (L .t)), .s v] ∧ TM m' L T ∧ T = stepsT ops) (fun w' vs hv hw _ => ?_) fun rs mA _ hq => ?_
  · obtain ⟨v1, vs, rfl, k1, hv⟩ := argsV_row (z := 8) (xs := ops.map gOp) rfl (by simp) hv
    obtain rfl := argsV_nil hv
    exact madeX_spec w' v1 ops hl ho w'.ph (fun _ _ h => h) k1
  obtain ⟨L, T, v0, rfl, hT, hTe⟩ := hq
  obtain ⟨hok, hg, hkd⟩ := stepsT_all ops ho
  simp (maxSteps := 2000000) only [retS, List.getElem?_cons_zero, List.getElem?_cons_succ, vc_seq, vc_rg, thenQ_n, kKeep_eq, segs_nil, segs_n, ops_nil, ops_cons, vcOp, ev, look, put_mk, keep_mk, keepL, Nat.reduceEqDiff, ↓reduceIte, reduceCtorEq, ptr]
  refine call_ownm rfl rfl (Q := fun rs m' => ∃ b, rs = [.s (ptr b)] ∧ RC m' b T0L []) (fun w' vs hv hw _ _ => ?_) fun rs m2 _ hq _ => ?_
  · obtain rfl := argsV_nil hv
    exact (rNew_spec w' PH.no).mono fun rs m' ⟨b, e, h⟩ => ⟨b, e, m', PH.no, (uni_no_r _).symm, dis_no_r _, h⟩
  obtain ⟨b, rfl, hR0⟩ := hq
  simp (maxSteps := 2000000) only [retS, uni_no_r, vc_seq, vc_rg, thenQ_n, kKeep_eq, segs_nil, segs_n, ops_nil, ops_cons, vcOp, ev, look, put_mk, keep_mk, keepL, Nat.reduceEqDiff, ↓reduceIte, reduceCtorEq, ptr]
  refine call_is _ [.s (.bool true)] rfl rfl (fun w' vs hv hw _ => ?_) ?_
  · obtain rfl := argsV_nil hv
    exact begun_spec w'
  simp (maxSteps := 2000000) only [retS, segs_g, ops_nil, ops_cons, vcOp, ev, look, put_mk, unV, Value.oneCell', cond_true, Nat.reduceEqDiff, ↓reduceIte, reduceCtorEq, Bool.not_true, ↓br_ff]
  refine eq_of (eqTree _) ?_
  simp (maxSteps := 2000000) only [vc_skip, vc_seq, vc_block, vc_rg, vc_ite, thenQ_n, kKeep_eq, segs_nil, segs_n, ops_nil, ops_cons, vcOp, ev, look, put_mk, keep_mk, keepL, Value.oneCell', cond_true, Nat.reduceEqDiff, ↓reduceIte, reduceCtorEq, ↓br_ft, Bool.bne_false]
  refine vc_loop (ι := Nat × List TN × List (List TN) × PH) (fun q => ⟨[(5, .g (.s (.pointer (some ⟨L .t, 0, none⟩)))), (7, .g (.s (.pointer (some ⟨b, 0, none⟩)))), (1, .row 1 0 (tb.length)), (41, .row 0 0 (ops.length)), (42, .g (.s (.int .i64 (ops.length)))), (43, .g (.s (.int .i64 (q.1))))], [(0, .ro 8 (gOp zOp) (ops.map gOp)), (1, .ro 4 (gTreeNode zTreeNode) (tb.map gTreeNode))], [mA], q.2.2.2⟩)
    (fun q => q.1 ≤ ops.length ∧ RC q.2.2.2 b q.2.1 q.2.2.1 ∧ LOk q.2.1 ∧ viewL q.2.1 = (stepsT (ops.take q.1)).view ∧ q.2.2.1.length ≤ q.1) (fun q => ops.length - q.1) (0, T0L, [], m2) ⟨by simp, hR0, T0L_ok, T0L_view, by simp⟩ (ge_of ?_ ?_ rfl rfl rfl) ?_
  · simp [frIn, look]
  · simp [pvIn, look]
  clear hR0
  rintro ⟨i, lr, ls, mR⟩ ⟨hi, hR, hL, hv, hls⟩
  simp only at hi hR hL hv hls
  generalize hQ : loopQ _ _ _ _ _ = Q
  simp (maxSteps := 2000000) only [c_law12_TreeOwn_L0, vc_skip, vc_exit, vc_seq, vc_block, vc_rg, vc_ite, thenQ_n, thenQ_e, kKeep_eq, segs_nil, segs_n, ops_nil, ops_cons, vcOp, ev, look, updL, put_mk, put_mk0, keep_mk, keepL, rowE, rowD, binV, binC, Nat.reduceEqDiff, ↓reduceIte, reduceCtorEq, Nat.zero_add, Bool.and_true, Bool.true_and, true_and, and_true, Int.toNat_natCast, decide_eq_true_eq, decide_eq_false_iff_not, br_t, getT_nil, setT_nil, gStamp_zero, gOp_sz, gOp_fits, gOp_same, gOp_zero, getD_gOp]
  refine ⟨fun hlt => ⟨⟨by omega, by omega⟩, ?_⟩, fun hge => ?_⟩
  · obtain ⟨hok1, hg1, _⟩ := stepsT_all (ops.take i) fun op h => ho op (List.mem_of_mem_take h)
    rw [List.length_take, Nat.min_eq_left hi] at hok1
    obtain ⟨hb1, hb2⟩ := list_bounds hL hv hok1 hg1
    obtain ⟨op, hop⟩ : ∃ op, ops.getD i zOp = op := ⟨_, rfl⟩
    have hmem : op ∈ ops := by rw [← hop, List.getD_eq_getElem?_getD, List.getElem?_eq_getElem (by omega)]; exact List.getElem_mem _
    obtain ⟨hw1, hw2⟩ := ho op hmem
    have htk : ops.take (i + 1) = ops.take i ++ [op] := by
      rw [List.take_succ_eq_append_getElem (by omega), ← hop, List.getD_eq_getElem?_getD, List.getElem?_eq_getElem (by omega)]; rfl
    rw [hop]
    refine call_all (Q := fun rs m' => (mayA (stepsT (ops.take i)) op = false → rs = [.s (.bool false)] ∧ RC m' b lr ls) ∧ (mayA (stepsT (ops.take i)) op = true → rs = [.s (.bool true)] ∧ RC m' b (doL lr op) (ls ++ [lr]))) rfl rfl (fun w' vs hvv _ _ => ?_) fun rs m5 _ hq5 => ?_
    · obtain ⟨vs, rfl, _, hvv⟩ := argsV_g hvv
      obtain ⟨vs, rfl, _, hvv⟩ := argsV_g hvv
      obtain rfl := argsV_nil hvv
      exact rDo_spec w' mR b lr ls hR hL _ hv hg1 op hw2 (by omega) (by omega) fun t ht => by have := hb2 t ht; omega
    cases hmay : mayA (stepsT (ops.take i)) op
    · obtain ⟨rfl, hR5⟩ := hq5.1 hmay
      simp (maxSteps := 2000000) only [retS, vc_rg, thenQ_n, blockQ_n, kKeep_eq, segs_nil, segs_n, ops_nil, ops_cons, vcOp, ev, look, put_mk, keep_mk, keepL, binV, binC, Value.oneCell', cond_true, Nat.reduceEqDiff, ↓reduceIte, Bool.true_and, true_and]
      subst hQ; simp only [loopQ_n]; refine ⟨(i + 1, lr, ls, m5), ?_, ?_, ge_of ?_ ?_ rfl rfl rfl⟩
      · exact ⟨by simp only; omega, hR5, hL, by simp only; rw [htk, stepsT_snoc, stepT, if_neg (by rw [hmay]; simp)]; exact hv, by simp only; omega⟩
      · simp only; omega
      · simp only [frIn, look, Nat.reduceEqDiff, ↓reduceIte, Bool.and_true, Bool.true_and, true_and, and_true]
        rw [wrap_n (by omega)]
        try simp
      · simp [pvIn, look]
    · obtain ⟨rfl, hR5⟩ := hq5.2 hmay
      obtain ⟨hL5, hv5⟩ := doL_view hL hv hok1 hg1 hmay
      simp (maxSteps := 2000000) only [retS, vc_rg, thenQ_n, blockQ_n, kKeep_eq, segs_nil, segs_n, ops_nil, ops_cons, vcOp, ev, look, put_mk, keep_mk, keepL, binV, binC, Value.oneCell', cond_true, Nat.reduceEqDiff, ↓reduceIte, Bool.true_and, true_and]
      subst hQ; simp only [loopQ_n]; refine ⟨(i + 1, doL lr op, ls ++ [lr], m5), ?_, ?_, ge_of ?_ ?_ rfl rfl rfl⟩
      · exact ⟨by simp only; omega, hR5, hL5, by simp only; rw [htk, stepsT_snoc, stepT, if_pos hmay]; exact hv5, by simp only [List.length_append, List.length_cons, List.length_nil]; omega⟩
      · simp only; omega
      · simp only [frIn, look, Nat.reduceEqDiff, ↓reduceIte, Bool.and_true, Bool.true_and, true_and, and_true]
        rw [wrap_n (by omega)]
        try simp
      · simp [pvIn, look]
  · subst hQ
    simp (maxSteps := 2000000) only [vc_seq, vc_rg, thenQ_n, blockQ_e, loopQ_e, segs_n, ops_cons, vcOp, ↓reduceIte]
    have hi' : i = ops.length := by omega
    rw [hi', List.take_length, ← hTe] at hv
    rw [← hTe] at hok hg hkd
    clear hi' hge hls
    refine gh_frz (u := mR) (m' := PH.no) (uni_no_r _).symm (dis_no_r _) ?_
    simp (maxSteps := 2000000) only [ops_cons, vcOp, ev, look, put_mk, Nat.reduceEqDiff, ↓reduceIte]
    refine call_ownm rfl rfl (Q := fun rs m' => ∃ v mn ma ts, rs = [.s v] ∧ m' = uni mn ma ∧ dis mn ma ∧ SlO mn v 39 4 (ts.map gTreeNode) ∧ TsOwn ma ts (nodesTold T)) (fun w' vs hvv hw hph _ => ?_) fun rs m3 _ hq _ => ?_
    · obtain ⟨vs, rfl, _, hvv⟩ := argsV_g hvv
      obtain rfl := argsV_nil hvv
      exact NodesOwn_spec w' mA (hph mA (by simp)) L T hT (ok_tells hok (by omega))
    obtain ⟨v3, mn, ma, ts, rfl, rfl, hd3, hS3, hO3⟩ := hq
    have hlx := nodesTold_len T
    have hmx := hok.many
    have hlt3 := hO3.ok.len
    simp (maxSteps := 2000000) only [retS, uni_no_r, ops_cons, vcOp, put_mk]
    refine gh_own 52 52 (gTreeNode zTreeNode) rfl rfl hS3 rfl hd3 ?_
    simp (maxSteps := 2000000) only [List.length_map, vc_block, thenQ_n, kKeep_eq, segs_nil, ops_nil, ops_cons, vcOp, ev, look, put_mk, keep_mk, keepL, Value.oneCell', cond_true, Nat.reduceEqDiff, ↓reduceIte, List.length_map]
    clear hS3 hd3
    refine vc_loop (ι := Nat × PH) (fun q => ⟨[(5, .g (.s (.pointer (some ⟨L .t, 0, none⟩)))), (7, .g (.s (.pointer (some ⟨b, 0, none⟩)))), (1, .row 1 0 (tb.length)), (52, .row 52 0 (ts.length)), (53, .g (.s (.int .i64 (ts.length)))), (54, .g (.s (.int .i64 (q.1))))], [(1, .ro 4 (gTreeNode zTreeNode) (tb.map gTreeNode)), (52, .row 39 4 (gTreeNode zTreeNode) (ts.map gTreeNode))], [mR, mA], q.2⟩)
      (fun q => q.1 ≤ ts.length ∧ TsOwn q.2 (ts.drop q.1) ((nodesTold T).drop q.1)) (fun q => ts.length - q.1) (0, ma) ⟨by simp, hO3⟩ (ge_of ?_ ?_ rfl rfl rfl) ?_
    · simp [frIn, look]
    · simp [pvIn, look]
    clear hO3
    rintro ⟨j, mc⟩ ⟨hj, hO⟩
    simp only at hj hO
    generalize hQ5 : loopQ _ _ _ _ _ = Q5
    simp (maxSteps := 2000000) only [c_law12_TreeOwn_L5, vc_skip, vc_exit, vc_seq, vc_block, vc_rg, vc_ite, thenQ_n, thenQ_e, kKeep_eq, segs_nil, segs_n, ops_nil, ops_cons, vcOp, ev, look, updL, put_mk, put_mk0, keep_mk, keepL, rowE, rowD, binV, binC, GV.getT, Value.oneCell', cond_true, Nat.reduceEqDiff, ↓reduceIte, List.nil_append, Nat.zero_add, Bool.and_true, Bool.true_and, Bool.not_false, true_and, and_true, Int.toNat_natCast, decide_eq_true_eq, decide_eq_false_iff_not, br_t, getT_nil, setT_nil, fits_s, gTreeNode_sz, gTreeNode_fits, gTreeNode_same, gTreeNode_fld3, gTreeNode_get3, gTreeNode_zero, getD_gTreeNode]
    refine ⟨fun hlt5 => ⟨⟨by omega, by omega⟩, ?_⟩, fun hge5 => ?_⟩
    · obtain ⟨t, ht⟩ : ∃ t, ts.getD j zTreeNode = t := ⟨_, rfl⟩
      obtain ⟨r, hr⟩ : ∃ r, (nodesTold T).getD j zTN = r := ⟨_, rfl⟩
      have hdt : ts.drop j = t :: ts.drop (j + 1) := by
        rw [← ht, List.getD_eq_getElem?_getD, List.getElem?_eq_getElem (by omega)]
        exact List.drop_eq_getElem_cons (by omega)
      have hdr : (nodesTold T).drop j = r :: (nodesTold T).drop (j + 1) := by
        rw [← hr, List.getD_eq_getElem?_getD, List.getElem?_eq_getElem (by omega)]
        exact List.drop_eq_getElem_cons (by omega)
      rw [hdt, hdr] at hO
      obtain ⟨ua, mr, rfl, hdu, ⟨_, _, _, hSa⟩, hOr⟩ := hO
      obtain ⟨tn, tp, tm, tv⟩ := t
      simp only at hSa
      have hAny : AnyA ua tv r.attrs.length := ⟨r.attrs, rfl, hSa⟩
      clear hSa
      have hrm : r ∈ nodesTold T := by rw [← hr, List.getD_eq_getElem?_getD, List.getElem?_eq_getElem (by omega)]; exact List.getElem_mem _
      have hrn : r.attrs.length ≤ 1099511627776 := by have := nodesTold_few hok hrm; omega
      generalize r.attrs.length = n at hAny hrn
      obtain ⟨a, c, rfl, hnc⟩ := hAny.len
      rw [ht]
      simp (maxSteps := 2000000) only []
      refine vc_loop (ι := Nat × PH) (fun q => ⟨[(5, .g (.s (.pointer (some ⟨L .t, 0, none⟩)))), (7, .g (.s (.pointer (some ⟨b, 0, none⟩)))), (1, .row 1 0 (tb.length)), (52, .row 52 0 (ts.length)), (53, .g (.s (.int .i64 (ts.length)))), (54, .g (.s (.int .i64 (j)))), (11, .ref 11 []), (60, .g (.s (.int .i64 (n)))), (61, .g (.s (.int .i64 (q.1))))], [(1, .ro 4 (gTreeNode zTreeNode) (tb.map gTreeNode)), (52, .row 39 4 (gTreeNode zTreeNode) (ts.map gTreeNode)), (11, .box (gTreeNode ⟨tn, tp, tm, .slice a n c⟩))], [mR, mA], uni q.2 mr⟩)
        (fun q => q.1 ≤ n ∧ dis q.2 mr ∧ AnyA q.2 (.slice a n c) n) (fun q => n - q.1) (0, ua) ⟨by omega, hdu, hAny⟩ (ge_of ?_ ?_ rfl rfl rfl) ?_
      · simp [frIn, look]
      · simp [pvIn, look]
      clear hAny hdu
      rintro ⟨i1, u1⟩ ⟨hi1, hdu, hAny⟩
      simp only at hi1 hdu hAny
      generalize hQ1 : loopQ _ _ _ _ _ = Q1
      simp (maxSteps := 2000000) only [c_law12_TreeOwn_L1, vc_skip, vc_exit, vc_seq, vc_block, vc_rg, vc_ite, thenQ_n, thenQ_e, blockQ_n, kKeep_eq, segs_nil, segs_n, ops_nil, ops_cons, vcOp, ev, look, updL, put_mk, put_mk0, keep_mk, keepL, rowE, rowD, binV, binC, GV.getT, GV.sz, Value.oneCell', cond_true, Nat.reduceEqDiff, ↓reduceIte, List.nil_append, Bool.and_true, Bool.true_and, Bool.not_false, true_and, and_true, decide_eq_true_eq, decide_eq_false_iff_not, br_t, getT_nil, fits_s, gTreeNode_fld3, gTreeNode_get3]
      refine ⟨fun h1 => ?_, fun h1 => ?_⟩
      · obtain ⟨b1, o1, rfl, _⟩ := hAny.place (show i1 < n by omega)
        simp (maxSteps := 2000000) only [Int.toNat_natCast]
        refine ⟨by omega, st_attr rfl hdu hAny (by omega) (k := 1) (by omega) _ fun u2 hd2 hA2 => ?_⟩
        simp (maxSteps := 2000000) only [vc_rg, thenQ_n, blockQ_n, kKeep_eq, segs_nil, segs_n, ops_nil, ops_cons, vcOp, ev, look, put_mk, put_mk0, keep_mk, keepL, binV, binC, Value.oneCell', cond_true, Nat.reduceEqDiff, ↓reduceIte, Bool.true_and, true_and]
        subst hQ1; simp only [loopQ_n]; refine ⟨(i1 + 1, u2), ⟨by simp only; omega, hd2, hA2⟩, by simp only; omega, ge_of ?_ ?_ rfl rfl rfl⟩
        · simp only [frIn, look, Nat.reduceEqDiff, ↓reduceIte, Bool.and_true, Bool.true_and, true_and, and_true]
          rw [wrap_n (by omega)]
          try simp
        · simp [pvIn, look]
      subst hQ1
      clear hi1 h1
      simp (maxSteps := 2000000) only [vc_seq, vc_rga, thenQ_n, blockQ_e, loopQ_e, segs_nil, segs_n, ops_nil, ops_cons, ot_op, ot_or, vcOp, ev, look, put_mk, GV.getT, Value.oneCell', cond_true, Nat.reduceEqDiff, ↓reduceIte, List.nil_append, Bool.true_and, Bool.not_false, true_and, getT_nil, fits_s, gTreeNode_fld0, gTreeNode_get0, gTreeNode_fld1, gTreeNode_get1]
      have hO1 : TsOwn (uni u1 mr) (ts.drop (j + 1)) ((nodesTold T).drop (j + 1)) := hOr.junk hdu
      clear hdu hAny hOr
      generalize uni u1 mr = M0 at hO1 ⊢
      generalize hKK : kKeep [1, 5, 7, 11, 52, 53, 54, 78, 79, 80] _ = KK
      have hkk : ∀ σ σ' : SS, σ.keep [1, 5, 7, 11, 52, 53, 54, 78, 79, 80] = σ'.keep [1, 5, 7, 11, 52, 53, 54, 78, 79, 80] → KK σ' → KK σ := by
        intro σ σ' h h'
        subst hKK
        rw [kKeep_eq] at h' ⊢
        rw [h]; exact h'
      have kids : ∀ (w' : World) (x : Int), mA.le w' → Spec Tryz.prog f_tree_Tree_Children [ptr (L .t), .int .i64 x] PH.no w' fun rs m' => ∃ v n, rs = [.s v] ∧ n ≤ 1099511627776 ∧ AnyC m' v n := fun w' x hm =>
        (Children_spec hm hT x hkd hg (by omega)).mono fun rs m' ⟨v, e, h⟩ => ⟨v, _, e, childA_few hok hkd (by omega) x, _, rfl, h⟩
      have tail : ∀ (v1 v2 : Value) (n1 n2 : Nat) (c1 c2 : PH), dis c1 M0 → dis c2 (uni c1 M0) → n1 ≤ 1099511627776 → n2 ≤ 1099511627776 → AnyC c1 v1 n1 → AnyC c2 v2 n2 → KK ⟨[(79, .g (.s (.int .i64 ((2 : Nat) : Int)))), (78, .row 78 0 (2)), (80, .g (.s (.int .i64 (0)))), (1, .row 1 0 (tb.length)), (5, .g (.s (.pointer (some ⟨L .t, 0, none⟩)))), (7, .g (.s (.pointer (some ⟨b, 0, none⟩)))), (11, .ref 11 []), (52, .row 52 0 (ts.length)), (53, .g (.s (.int .i64 (ts.length)))), (54, .g (.s (.int .i64 (j))))], [(1, .ro 4 (gTreeNode zTreeNode) (tb.map gTreeNode)), (52, .row 39 4 (gTreeNode zTreeNode) (ts.map gTreeNode)), (11, .box (gTreeNode ⟨tn, tp, tm, .slice a n c⟩)), (78, .row 42 1 (.s (.slice none 0 0)) [.s v1, .s v2])], [mR, mA], uni c2 (uni c1 M0)⟩ := by
        intro v1 v2 n1 n2 c1 c2 hd1 hd2 hl1 hl2 hC1 hC2
        subst hKK
        simp (maxSteps := 2000000) only [vc_block, thenQ_n, kKeep_eq, look, keep_mk, keepL, Nat.reduceEqDiff, ↓reduceIte]
        obtain ⟨a1, k1, rfl, _⟩ := hC1.len
        obtain ⟨a2, k2, rfl, _⟩ := hC2.len
        refine vc_loop (ι := Nat × PH × PH) (fun q => ⟨[(5, .g (.s (.pointer (some ⟨L .t, 0, none⟩)))), (7, .g (.s (.pointer (some ⟨b, 0, none⟩)))), (1, .row 1 0 (tb.length)), (52, .row 52 0 (ts.length)), (53, .g (.s (.int .i64 (ts.length)))), (54, .g (.s (.int .i64 (j)))), (11, .ref 11 []), (78, .row 78 0 (2)), (79, .g (.s (.int .i64 ((2 : Nat) : Int)))), (80, .g (.s (.int .i64 (q.1))))], [(1, .ro 4 (gTreeNode zTreeNode) (tb.map gTreeNode)), (52, .row 39 4 (gTreeNode zTreeNode) (ts.map gTreeNode)), (11, .box (gTreeNode ⟨tn, tp, tm, .slice a n c⟩)), (78, .row 42 1 (.s (.slice none 0 0)) [.s (.slice a1 n1 k1), .s (.slice a2 n2 k2)])], [mR, mA], uni q.2.2 (uni q.2.1 M0)⟩)
          (fun q => q.1 ≤ 2 ∧ dis q.2.1 M0 ∧ dis q.2.2 (uni q.2.1 M0) ∧ AnyC q.2.1 (.slice a1 n1 k1) n1 ∧ AnyC q.2.2 (.slice a2 n2 k2) n2) (fun q => 2 - q.1) (0, c1, c2) ⟨by omega, hd1, hd2, hC1, hC2⟩ (ge_of ?_ ?_ rfl rfl rfl) ?_
        · simp [frIn, look]
        · simp [pvIn, look]
        clear hd1 hd2 hC1 hC2
        rintro ⟨i3, e1, e2⟩ ⟨hi3, hd1, hd2, hC1, hC2⟩
        simp only at hi3 hd1 hd2 hC1 hC2
        have hdd := dis_of_uni_r hd2
        generalize hQ3 : loopQ _ _ _ _ _ = Q3
        simp (maxSteps := 2000000) only [c_law12_TreeOwn_L3, vc_skip, vc_exit, vc_seq, vc_block, vc_rg, vc_ite, thenQ_n, thenQ_e, kKeep_eq, segs_nil, segs_n, ops_nil, ops_cons, vcOp, ev, look, put_mk, keep_mk, keepL, rowE, rowD, binV, binC, Value.oneCell', cond_true, Nat.reduceEqDiff, ↓reduceIte, Nat.zero_add, Bool.true_and, true_and, Int.toNat_natCast, decide_eq_true_eq, decide_eq_false_iff_not, br_t, getT_nil]
        refine ⟨fun h3 => ⟨⟨by omega, by omega⟩, ?_⟩, fun h3 => ?_⟩
        · rcases (show i3 = 0 ∨ i3 = 1 by omega) with rfl | rfl
          · rw [show ([GV.s (.slice a1 n1 k1), .s (.slice a2 n2 k2)] : List GV).getD 0 (.s (.slice none 0 0)) = .s (.slice a1 n1 k1) from rfl]
            refine ⟨rfl, ?_⟩
            simp (maxSteps := 2000000) only []
            rw [uni_lc hdd.1]
            refine vc_loop (ι := Nat × PH) (fun q => ⟨[(5, .g (.s (.pointer (some ⟨L .t, 0, none⟩)))), (7, .g (.s (.pointer (some ⟨b, 0, none⟩)))), (1, .row 1 0 (tb.length)), (52, .row 52 0 (ts.length)), (53, .g (.s (.int .i64 (ts.length)))), (54, .g (.s (.int .i64 (j)))), (11, .ref 11 []), (78, .row 78 0 (2)), (79, .g (.s (.int .i64 ((2 : Nat) : Int)))), (80, .g (.s (.int .i64 ((0 : Nat) : Int)))), (14, .g (.s (.slice a1 n1 k1))), (85, .g (.s (.int .i64 (n1)))), (86, .g (.s (.int .i64 (q.1))))], [(1, .ro 4 (gTreeNode zTreeNode) (tb.map gTreeNode)), (52, .row 39 4 (gTreeNode zTreeNode) (ts.map gTreeNode)), (11, .box (gTreeNode ⟨tn, tp, tm, .slice a n c⟩)), (78, .row 42 1 (.s (.slice none 0 0)) [.s (.slice a1 n1 k1), .s (.slice a2 n2 k2)])], [mR, mA], uni q.2 (uni e2 M0)⟩)
              (fun q => q.1 ≤ n1 ∧ dis q.2 (uni e2 M0) ∧ AnyC q.2 (.slice a1 n1 k1) n1) (fun q => n1 - q.1) (0, e1) ⟨by omega, dis_uni_r (dis_comm hdd.1) hd1, hC1⟩ (ge_of ?_ ?_ rfl rfl rfl) ?_
            · simp [frIn, look]
            · simp [pvIn, look]
            rintro ⟨i2, u2⟩ ⟨hi2, hdu2, hA2⟩
            simp only at hi2 hdu2 hA2
            generalize hQ2 : loopQ _ _ _ _ _ = Q2
            simp (maxSteps := 2000000) only [c_law12_TreeOwn_L2, vc_skip, vc_exit, vc_seq, vc_block, vc_rg, vc_ite, thenQ_n, thenQ_e, blockQ_n, kKeep_eq, segs_nil, segs_n, ops_nil, ops_cons, vcOp, ev, look, updL, put_mk, put_mk0, keep_mk, keepL, rowE, rowD, binV, binC, GV.sz, Value.oneCell', cond_true, Nat.reduceEqDiff, ↓reduceIte, List.nil_append, Bool.and_true, Bool.true_and, true_and, and_true, decide_eq_true_eq, decide_eq_false_iff_not, br_t, getT_nil]
            refine ⟨fun h2 => ?_, fun h2 => ?_⟩
            · obtain ⟨b1, o1, rfl, _⟩ := hA2.place (show i2 < n1 by omega)
              simp (maxSteps := 2000000) only [Int.toNat_natCast]
              refine ⟨by omega, st_child rfl hdu2 hA2 (by omega) _ fun u3 hd3 hA3 => ?_⟩
              simp (maxSteps := 2000000) only [vc_rg, thenQ_n, blockQ_n, kKeep_eq, segs_nil, segs_n, ops_nil, ops_cons, vcOp, ev, look, put_mk, put_mk0, keep_mk, keepL, binV, binC, Value.oneCell', cond_true, Nat.reduceEqDiff, ↓reduceIte, Bool.true_and, true_and]
              subst hQ2; simp only [loopQ_n]; refine ⟨(i2 + 1, u3), ⟨by simp only; omega, hd3, hA3⟩, by simp only; omega, ge_of ?_ ?_ rfl rfl rfl⟩
              · simp only [frIn, look, Nat.reduceEqDiff, ↓reduceIte, Bool.and_true, Bool.true_and, true_and, and_true]
                rw [wrap_n (by omega)]
                try simp
              · simp [pvIn, look]
            subst hQ2
            simp (maxSteps := 2000000) only [vc_rg, thenQ_n, blockQ_n, blockQ_e, kKeep_eq, loopQ_e, segs_nil, segs_n, ops_nil, ops_cons, vcOp, ev, look, put_mk, keep_mk, keepL, binV, binC, Value.oneCell', cond_true, Nat.reduceEqDiff, ↓reduceIte, Bool.true_and, true_and]
            have hx := dis_of_uni_r hdu2
            rw [uni_lc hx.1]
            subst hQ3; simp only [loopQ_n]; refine ⟨(1, u2, e2), ?_, by simp only; omega, ge_of ?_ ?_ rfl rfl rfl⟩
            · exact ⟨by simp only; omega, hx.2, dis_uni_r (dis_comm hx.1) hdd.2, hA2, hC2⟩
            · simp only [frIn, look, Nat.reduceEqDiff, ↓reduceIte, Bool.and_true, Bool.true_and, true_and, and_true]
              try simp
              try rfl
            · simp [pvIn, look]
          · rw [show ([GV.s (.slice a1 n1 k1), .s (.slice a2 n2 k2)] : List GV).getD 1 (.s (.slice none 0 0)) = .s (.slice a2 n2 k2) from rfl]
            refine ⟨rfl, ?_⟩
            simp (maxSteps := 2000000) only []
            
            refine vc_loop (ι := Nat × PH) (fun q => ⟨[(5, .g (.s (.pointer (some ⟨L .t, 0, none⟩)))), (7, .g (.s (.pointer (some ⟨b, 0, none⟩)))), (1, .row 1 0 (tb.length)), (52, .row 52 0 (ts.length)), (53, .g (.s (.int .i64 (ts.length)))), (54, .g (.s (.int .i64 (j)))), (11, .ref 11 []), (78, .row 78 0 (2)), (79, .g (.s (.int .i64 ((2 : Nat) : Int)))), (80, .g (.s (.int .i64 ((1 : Nat) : Int)))), (14, .g (.s (.slice a2 n2 k2))), (85, .g (.s (.int .i64 (n2)))), (86, .g (.s (.int .i64 (q.1))))], [(1, .ro 4 (gTreeNode zTreeNode) (tb.map gTreeNode)), (52, .row 39 4 (gTreeNode zTreeNode) (ts.map gTreeNode)), (11, .box (gTreeNode ⟨tn, tp, tm, .slice a n c⟩)), (78, .row 42 1 (.s (.slice none 0 0)) [.s (.slice a1 n1 k1), .s (.slice a2 n2 k2)])], [mR, mA], uni q.2 (uni e1 M0)⟩)
              (fun q => q.1 ≤ n2 ∧ dis q.2 (uni e1 M0) ∧ AnyC q.2 (.slice a2 n2 k2) n2) (fun q => n2 - q.1) (0, e2) ⟨by omega, hd2, hC2⟩ (ge_of ?_ ?_ rfl rfl rfl) ?_
            · simp [frIn, look]
            · simp [pvIn, look]
            rintro ⟨i2, u2⟩ ⟨hi2, hdu2, hA2⟩
            simp only at hi2 hdu2 hA2
            generalize hQ2 : loopQ _ _ _ _ _ = Q2
            simp (maxSteps := 2000000) only [c_law12_TreeOwn_L2, vc_skip, vc_exit, vc_seq, vc_block, vc_rg, vc_ite, thenQ_n, thenQ_e, blockQ_n, kKeep_eq, segs_nil, segs_n, ops_nil, ops_cons, vcOp, ev, look, updL, put_mk, put_mk0, keep_mk, keepL, rowE, rowD, binV, binC, GV.sz, Value.oneCell', cond_true, Nat.reduceEqDiff, ↓reduceIte, List.nil_append, Bool.and_true, Bool.true_and, true_and, and_true, decide_eq_true_eq, decide_eq_false_iff_not, br_t, getT_nil]
            refine ⟨fun h2 => ?_, fun h2 => ?_⟩
            · obtain ⟨b1, o1, rfl, _⟩ := hA2.place (show i2 < n2 by omega)
              simp (maxSteps := 2000000) only [Int.toNat_natCast]
              refine ⟨by omega, st_child rfl hdu2 hA2 (by omega) _ fun u3 hd3 hA3 => ?_⟩
              simp (maxSteps := 2000000) only [vc_rg, thenQ_n, blockQ_n, kKeep_eq, segs_nil, segs_n, ops_nil, ops_cons, vcOp, ev, look, put_mk, put_mk0, keep_mk, keepL, binV, binC, Value.oneCell', cond_true, Nat.reduceEqDiff, ↓reduceIte, Bool.true_and, true_and]
              subst hQ2; simp only [loopQ_n]; refine ⟨(i2 + 1, u3), ⟨by simp only; omega, hd3, hA3⟩, by simp only; omega, ge_of ?_ ?_ rfl rfl rfl⟩
              · simp only [frIn, look, Nat.reduceEqDiff, ↓reduceIte, Bool.and_true, Bool.true_and, true_and, and_true]
                rw [wrap_n (by omega)]
                try simp
              · simp [pvIn, look]
            subst hQ2
            simp (maxSteps := 2000000) only [vc_rg, thenQ_n, blockQ_n, blockQ_e, kKeep_eq, loopQ_e, segs_nil, segs_n, ops_nil, ops_cons, vcOp, ev, look, put_mk, keep_mk, keepL, binV, binC, Value.oneCell', cond_true, Nat.reduceEqDiff, ↓reduceIte, Bool.true_and, true_and]
            
            subst hQ3; simp only [loopQ_n]; refine ⟨(2, e1, u2), ?_, by simp only; omega, ge_of ?_ ?_ rfl rfl rfl⟩
            · exact ⟨by simp only; omega, hd1, hdu2, hC1, hA2⟩
            · simp only [frIn, look, Nat.reduceEqDiff, ↓reduceIte, Bool.and_true, Bool.true_and, true_and, and_true]
              try simp
              try rfl
            · simp [pvIn, look]

        · subst hQ3
          simp (maxSteps := 2000000) only [vc_seq, vc_rg, thenQ_n, blockQ_e, loopQ_e, segs_n, ops_cons, vcOp, ev, look, put_mk, GV.getT, Nat.reduceEqDiff, ↓reduceIte, List.nil_append, Bool.true_and, Bool.not_false, true_and, getT_nil, fits_s, gTreeNode_fld0, gTreeNode_get0]
          have hM1 : TsOwn (uni e2 (uni e1 M0)) (ts.drop (j + 1)) ((nodesTold T).drop (j + 1)) := (hO1.junk hd1).junk hd2
          clear hd1 hd2 hC1 hC2 hdd h3 hi3
          generalize uni e2 (uni e1 M0) = M1 at hM1 ⊢
          refine call_ownm rfl rfl (Q := fun rs m' => ∃ t bb n, rs = [gTreeNode t, .s (.bool bb)] ∧ n ≤ 1099511627776 ∧ AnyA m' t.attrs n) (fun w' vs hvv hw hph _ => ?_) fun rs m4 _ hq hd4 => ?_
          · obtain ⟨vs, rfl, _, hvv⟩ := argsV_g hvv
            obtain ⟨vs, rfl, _, hvv⟩ := argsV_g hvv
            obtain rfl := argsV_nil hvv
            exact nodeAny (hph mA (by simp)) hT hok (by omega) tn
          obtain ⟨t4, bb, n4, rfl, hl4, hA4⟩ := hq
          obtain ⟨t4n, t4p, t4m, t4v⟩ := t4
          simp only at hA4
          obtain ⟨a4, k4, rfl, _⟩ := hA4.len
          simp (maxSteps := 2000000) only [retS, List.getElem?_cons_zero, List.getElem?_cons_succ, vc_seq, vc_block, vc_rg, thenQ_n, kKeep_eq, segs_nil, segs_n, ops_nil, ops_cons, vcOp, ev, look, updL, put_mk, put_mk0, keep_mk, keepL, GV.getT, Value.oneCell', cond_true, Nat.reduceEqDiff, ↓reduceIte, List.nil_append, Bool.and_true, Bool.true_and, Bool.not_false, true_and, and_true, getT_nil, setT_nil, fits_s, gTreeNode_sz, gTreeNode_same, gTreeNode_fld3, gTreeNode_get3]
          refine vc_loop (ι := Nat × PH) (fun q => ⟨[(5, .g (.s (.pointer (some ⟨L .t, 0, none⟩)))), (7, .g (.s (.pointer (some ⟨b, 0, none⟩)))), (1, .row 1 0 (tb.length)), (52, .row 52 0 (ts.length)), (53, .g (.s (.int .i64 (ts.length)))), (54, .g (.s (.int .i64 (j)))), (16, .ref 16 []), (104, .g (.s (.int .i64 (n4)))), (105, .g (.s (.int .i64 (q.1))))], [(1, .ro 4 (gTreeNode zTreeNode) (tb.map gTreeNode)), (52, .row 39 4 (gTreeNode zTreeNode) (ts.map gTreeNode)), (16, .box (gTreeNode ⟨t4n, t4p, t4m, .slice a4 n4 k4⟩))], [mR, mA], uni q.2 M1⟩)
            (fun q => q.1 ≤ n4 ∧ dis q.2 M1 ∧ AnyA q.2 (.slice a4 n4 k4) n4) (fun q => n4 - q.1) (0, m4) ⟨by omega, hd4, hA4⟩ (ge_of ?_ ?_ rfl rfl rfl) ?_
          · simp [frIn, look]
          · simp [pvIn, look]
          clear hA4 hd4
          rintro ⟨i4, u4⟩ ⟨hi4, hdu4, hAny4⟩
          simp only at hi4 hdu4 hAny4
          generalize hQ4 : loopQ _ _ _ _ _ = Q4
          simp (maxSteps := 2000000) only [c_law12_TreeOwn_L4, vc_skip, vc_exit, vc_seq, vc_block, vc_rg, vc_ite, thenQ_n, thenQ_e, blockQ_n, kKeep_eq, segs_nil, segs_n, ops_nil, ops_cons, vcOp, ev, look, updL, put_mk, put_mk0, keep_mk, keepL, rowE, rowD, binV, binC, GV.getT, GV.sz, Value.oneCell', cond_true, Nat.reduceEqDiff, ↓reduceIte, List.nil_append, Nat.add_zero, Bool.and_true, Bool.true_and, Bool.not_false, true_and, and_true, decide_eq_true_eq, decide_eq_false_iff_not, br_t, getT_nil, fits_s, gTreeNode_fld3, gTreeNode_get3]
          refine ⟨fun h4 => ?_, fun h4 => ?_⟩
          · obtain ⟨b4, o4, rfl, _⟩ := hAny4.place (show i4 < n4 by omega)
            simp (maxSteps := 2000000) only [Int.toNat_natCast]
            refine ⟨by omega, ?_⟩
            rw [show o4 + i4 * 2 = o4 + i4 * 2 + 0 from rfl]
            refine st_attr rfl hdu4 hAny4 (by omega) (k := 0) (by omega) _ fun u5 hd5 hA5 => ?_
            simp (maxSteps := 2000000) only [vc_rg, thenQ_n, blockQ_n, kKeep_eq, segs_nil, segs_n, ops_nil, ops_cons, vcOp, ev, look, put_mk, put_mk0, keep_mk, keepL, binV, binC, Value.oneCell', cond_true, Nat.reduceEqDiff, ↓reduceIte, Nat.add_zero, Bool.true_and, true_and]
            subst hQ4; simp only [loopQ_n]; refine ⟨(i4 + 1, u5), ⟨by simp only; omega, hd5, hA5⟩, by simp only; omega, ge_of ?_ ?_ rfl rfl rfl⟩
            · simp only [frIn, look, Nat.reduceEqDiff, ↓reduceIte, Bool.and_true, Bool.true_and, true_and, and_true]
              rw [wrap_n (by omega)]
              try simp
            · simp [pvIn, look]
          subst hQ4
          simp (maxSteps := 2000000) only [vc_rg, thenQ_n, blockQ_n, blockQ_e, kKeep_eq, loopQ_e, segs_nil, segs_n, ops_nil, ops_cons, vcOp, ev, look, put_mk, keep_mk, keepL, binV, binC, Value.oneCell', cond_true, Nat.reduceEqDiff, ↓reduceIte, Bool.true_and, true_and]
          subst hQ5; simp only [loopQ_n]; refine ⟨(j + 1, uni u4 M1), ⟨by simp only; omega, hM1.junk hdu4⟩, by simp only; omega, ge_of ?_ ?_ rfl rfl rfl⟩
          · simp only [frIn, look, Nat.reduceEqDiff, ↓reduceIte, Bool.and_true, Bool.true_and, true_and, and_true]
            rw [wrap_n (by omega)]
            try simp
          · simp [pvIn, look]
      refine ⟨⟨?_, ?_⟩, ?_⟩
      · refine call_ownm rfl rfl (Q := fun rs m' => ∃ v n, rs = [.s v] ∧ n ≤ 1099511627776 ∧ AnyC m' v n) (fun w' vs hvv hw hph _ => ?_) fun rs c1 _ hq hd1 => ?_
        · obtain ⟨vs, rfl, _, hvv⟩ := argsV_g hvv
          obtain ⟨vs, rfl, _, hvv⟩ := argsV_g hvv
          obtain rfl := argsV_nil hvv
          exact kids w' _ (hph mA (by simp))
        obtain ⟨v1, n1, rfl, hl1, hC1⟩ := hq
        simp (maxSteps := 2000000) only [retS, segs_nil, segs_n, ops_nil, ops_cons, ot_op, vcOp, ev, look, put_mk, GV.getT, Nat.reduceEqDiff, ↓reduceIte, Bool.true_and, Bool.not_false, true_and, fits_s, gTreeNode_get1]
        refine call_ownm rfl rfl (Q := fun rs m' => ∃ v n, rs = [.s v] ∧ n ≤ 1099511627776 ∧ AnyC m' v n) (fun w' vs hvv hw hph _ => ?_) fun rs c2 _ hq hd2 => ?_
        · obtain ⟨vs, rfl, _, hvv⟩ := argsV_g hvv
          obtain ⟨vs, rfl, _, hvv⟩ := argsV_g hvv
          obtain rfl := argsV_nil hvv
          exact kids w' _ (hph mA (by simp))
        obtain ⟨v2, n2, rfl, hl2, hC2⟩ := hq
        simp (maxSteps := 2000000) only [retS, segs_nil, segs_n, ops_nil, ops_cons, ot_done, ot_op, vcOp, ev, evL, gvL, look, updL, put_mk, GV.sz, Nat.reduceEqDiff, Nat.reduceAdd, ↓reduceIte, Nat.zero_add, Bool.and_true, Bool.true_and, true_and, and_true, Option.map_some, szAll, List.length_cons, List.length_nil, Int.reduceAdd]
        refine hkk _ _ ?_ (tail v1 v2 n1 n2 c1 c2 hd1 hd2 hl1 hl2 hC1 hC2)
        rfl
      · refine call_ownm rfl rfl (Q := fun rs m' => ∃ v n, rs = [.s v] ∧ n ≤ 1099511627776 ∧ AnyC m' v n) (fun w' vs hvv hw hph _ => ?_) fun rs c1 _ hq hd1 => ?_
        · obtain ⟨vs, rfl, _, hvv⟩ := argsV_g hvv
          obtain ⟨vs, rfl, _, hvv⟩ := argsV_g hvv
          obtain rfl := argsV_nil hvv
          exact kids w' _ (hph mA (by simp))
        obtain ⟨v1, n1, rfl, hl1, hC1⟩ := hq
        simp (maxSteps := 2000000) only [retS, segs_nil, segs_n, ops_nil, ops_cons, ot_op, vcOp, put_mk]
        refine call_ownm rfl rfl (Q := fun rs m' => ∃ v n, rs = [.s v] ∧ n ≤ 1099511627776 ∧ AnyC m' v n) (fun w' vs hvv hw hph _ => ?_) fun rs c2 _ hq hd2 => ?_
        · obtain ⟨vs, rfl, _, hvv⟩ := argsV_g hvv
          obtain ⟨vs, rfl, _, hvv⟩ := argsV_g hvv
          obtain rfl := argsV_nil hvv
          exact kids w' _ (hph mA (by simp))
        obtain ⟨v2, n2, rfl, hl2, hC2⟩ := hq
        simp (maxSteps := 2000000) only [retS, segs_nil, segs_n, ops_nil, ops_cons, ot_done, ot_op, vcOp, ev, evL, gvL, look, updL, put_mk, GV.sz, Nat.reduceEqDiff, Nat.reduceAdd, ↓reduceIte, Nat.zero_add, Bool.and_true, Bool.true_and, true_and, and_true, Option.map_some, szAll, List.length_cons, List.length_nil, Int.reduceAdd]
        refine hkk _ _ ?_ (tail v1 v2 n1 n2 c1 c2 hd1 hd2 hl1 hl2 hC1 hC2)
        rfl
      · refine call_ownm rfl rfl (Q := fun rs m' => ∃ v n, rs = [.s v] ∧ n ≤ 1099511627776 ∧ AnyC m' v n) (fun w' vs hvv hw hph _ => ?_) fun rs c1 _ hq hd1 => ?_
        · obtain ⟨vs, rfl, _, hvv⟩ := argsV_g hvv
          obtain ⟨vs, rfl, _, hvv⟩ := argsV_g hvv
          obtain rfl := argsV_nil hvv
          exact kids w' _ (hph mA (by simp))
        obtain ⟨v1, n1, rfl, hl1, hC1⟩ := hq
        simp (maxSteps := 2000000) only [retS, segs_nil, segs_n, ops_nil, ops_cons, ot_op, vcOp, put_mk]
        refine call_ownm rfl rfl (Q := fun rs m' => ∃ v n, rs = [.s v] ∧ n ≤ 1099511627776 ∧ AnyC m' v n) (fun w' vs hvv hw hph _ => ?_) fun rs c2 _ hq hd2 => ?_
        · obtain ⟨vs, rfl, _, hvv⟩ := argsV_g hvv
          obtain ⟨vs, rfl, _, hvv⟩ := argsV_g hvv
          obtain rfl := argsV_nil hvv
          exact kids w' _ (hph mA (by simp))
        obtain ⟨v2, n2, rfl, hl2, hC2⟩ := hq
        simp (maxSteps := 2000000) only [retS, segs_nil, segs_n, ops_nil, ops_cons, ot_done, ot_op, vcOp, ev, evL, gvL, look, updL, put_mk, GV.sz, Nat.reduceEqDiff, Nat.reduceAdd, ↓reduceIte, Nat.zero_add, Bool.and_true, Bool.true_and, true_and, and_true, Option.map_some, szAll, List.length_cons, List.length_nil, Int.reduceAdd]
        refine hkk _ _ ?_ (tail v1 v2 n1 n2 c1 c2 hd1 hd2 hl1 hl2 hC1 hC2)
        rfl
    · subst hQ5
      simp (maxSteps := 2000000) only [vc_seq, vc_rg, thenQ_n, blockQ_e, loopQ_e, segs_n, ops_cons, vcOp, ev, look, put_mk, Nat.reduceEqDiff, ↓reduceIte]
      clear hO hj hge5
      have hpl : plainL lr = nodesTold T := plain_told hL hv hok hg
      obtain ⟨hb1, hb2⟩ := list_bounds hL hv hok hg
      refine call_frzm rfl rfl (Q := fun rs m' => ∃ v ts, rs = [.s v] ∧ SlR m' v 4 (ts.map gTreeNode) ∧ TsOk m' ts (nodesTold T)) (fun w' vs hvv _ hph _ => ?_) fun rs mx _ hq => ?_
      · obtain ⟨vs, rfl, _, hvv⟩ := argsV_g hvv
        obtain rfl := argsV_nil hvv
        exact Nodes_spec w' mA (hph mA (by simp)) L T hT (ok_tells hok (by omega))
      obtain ⟨vx, tx, rfl, hsx, htx⟩ := hq
      simp (maxSteps := 2000000) only [retS, ops_cons, vcOp, ev, look, put_mk, Nat.reduceEqDiff, ↓reduceIte]
      obtain ⟨m1', A, hmR, hdA, hRM⟩ := hR
      refine call_frzm rfl rfl (Q := fun rs m' => ∃ v ts, rs = [.s v] ∧ SlR m' v 4 (ts.map gTreeNode) ∧ TsOk m' ts (plainL lr)) (fun w' vs hvv hw hph _ => ?_) fun rs my _ hq => ?_
      · obtain ⟨vs, rfl, _, hvv⟩ := argsV_g hvv
        obtain rfl := argsV_nil hvv
        have s0 : PH.sub mR w'.ph := hph mR (by simp)
        exact rNodes_spec w' A m1' (fun b o h => s0 b o (by rw [hmR]; exact sub_uni_l _ _ b o h)) (fun b o h => s0 b o (by rw [hmR]; exact sub_uni_r hdA b o h)) b lr ls hRM (by omega) fun t ht => by have := hb2 t ht; omega
      obtain ⟨vy, ty, rfl, hsy, hty⟩ := hq
      simp (maxSteps := 2000000) only [retS, ops_cons, vcOp, put_mk]
      refine call_ism _ [.s (.bool true)] rfl rfl (fun w' vs hvv _ hph _ => ?_) ?_
      · obtain ⟨vs, rfl, _, hvv⟩ := argsV_g hvv
        obtain ⟨vs, rfl, _, hvv⟩ := argsV_g hvv
        obtain rfl := argsV_nil hvv
        have s1 : PH.sub mx w'.ph := hph mx (by simp)
        have s2 : PH.sub my w'.ph := hph my (by simp)
        have := rSame_spec w' vx vy tx ty _ _ w'.ph (fun _ _ h => h) (hsx.up s1) (hsy.up s2) (htx.up s1) (hty.up s2) (by rw [htx.len]; omega) (fun t ht => by have := nodesTold_few hok ht; omega)
        rw [decide_eq_true (by rw [hpl])] at this
        exact this
      simp (maxSteps := 2000000) only [retS, vc_skip, vc_seq, vc_rg, vc_ite, thenQ_n, kKeep_eq, segs_nil, segs_n, ops_nil, ops_cons, vcOp, ev, look, put_mk, keep_mk, keepL, unV, Value.oneCell', cond_true, Nat.reduceEqDiff, ↓reduceIte, Bool.not_true, ↓br_ft]
      refine gh_nil 19 19 39 4 (gTreeNode zTreeNode) rfl rfl ?_
      simp (maxSteps := 2000000) only [vc_block, thenQ_n, kKeep_eq, segs_nil, ops_nil, ops_cons, vcOp, ev, look, put_mk, keep_mk, keepL, Value.oneCell', cond_true, Nat.reduceEqDiff, ↓reduceIte]
      clear hRM hL hv hpl hb1 hb2 hT hTe hok hg hkd hsx hsy htx hty hlx hmx
      refine vc_loop (ι := Nat × List TreeNode × PH) (fun q => ⟨[(1, .row 1 0 (tb.length)), (19, .row 19 0 (q.2.1.length)), (121, .row 1 0 (tb.length)), (122, .g (.s (.int .i64 (tb.length)))), (123, .g (.s (.int .i64 (q.1))))], [(1, .ro 4 (gTreeNode zTreeNode) (tb.map gTreeNode)), (19, .row 39 4 (gTreeNode zTreeNode) (q.2.1.map gTreeNode))], [my, mx, mR, mA], q.2.2⟩)
        (fun q => q.1 ≤ tb.length ∧ q.2.1.length = q.1 ∧ TsOwn q.2.2 q.2.1 (lb.take q.1)) (fun q => tb.length - q.1) (0, [], mc) ⟨by simp, rfl, trivial⟩ (ge_of ?_ ?_ rfl rfl rfl) ?_
      · simp [frIn, look]
      · simp [pvIn, look]
      rintro ⟨i6, os, m6⟩ ⟨hi6, hol, hos⟩
      simp only at hi6 hol hos
      generalize hQ6 : loopQ _ _ _ _ _ = Q6
      simp (maxSteps := 2000000) only [c_law12_TreeOwn_L6, vc_skip, vc_exit, vc_seq, vc_block, vc_rg, vc_ite, thenQ_n, thenQ_e, kKeep_eq, segs_nil, segs_n, ops_nil, ops_cons, vcOp, ev, look, updL, put_mk, put_mk0, keep_mk, keepL, rowE, rowD, binV, binC, GV.getT, Nat.reduceEqDiff, ↓reduceIte, List.nil_append, Nat.zero_add, Bool.and_true, Bool.true_and, Bool.not_false, true_and, and_true, Int.toNat_natCast, decide_eq_true_eq, decide_eq_false_iff_not, br_t, getT_nil, setT_nil, fits_s, gTreeNode_sz, gTreeNode_fits, gTreeNode_same, gTreeNode_fld3, gTreeNode_get3, gTreeNode_zero, getD_gTreeNode]
      refine ⟨fun h6 => ⟨⟨by omega, by omega⟩, ?_⟩, fun h6 => ?_⟩
      · obtain ⟨t, ht⟩ : ∃ t, tb.getD i6 zTreeNode = t := ⟨_, rfl⟩
        obtain ⟨r, hr⟩ : ∃ r, lb.getD i6 zTN = r := ⟨_, rfl⟩
        have hrm : r ∈ lb := by rw [← hr, List.getD_eq_getElem?_getD, List.getElem?_eq_getElem (by omega)]; exact List.getElem_mem _
        obtain ⟨e1, e2, e3, hsl⟩ := hb.told.at i6 (by omega)
        rw [ht, hr] at e1 e2 e3 hsl
        have htake : lb.take (i6 + 1) = lb.take i6 ++ [r] := by
          rw [List.take_add_one, ← hr, List.getD_eq_getElem?_getD, List.getElem?_eq_getElem (by omega)]; rfl
        have hal := hb.attrs r hrm
        rw [ht]
        refine gh_rk 128 128 (gAttr zAttr) rfl rfl hsl (kn_u hu) ?_
        simp (maxSteps := 2000000) only [List.length_map, ops_cons, vcOp, ev, look, rowE, Value.oneCell', cond_true, ↓reduceIte, Bool.true_and, true_and, List.drop_zero, List.length_map]
        rw [List.take_of_length_le (by simp)]
        refine app_nil rfl rfl (by omega) ?_
        simp (maxSteps := 2000000) only [ops_cons, vcOp, updL, Nat.reduceEqDiff, ↓reduceIte]
        refine gh_pub 129 129 r.attrs.length rfl rfl (by simp) fun v u2 hv hso hd2 => ?_
        simp (maxSteps := 2000000) only [dropK, vc_rg, thenQ_n, blockQ_n, kKeep_eq, segs_nil, segs_n, ops_nil, ops_cons, vcOp, ev, evL, gvL, look, updL, put_mk, put_mk0, keep_mk, keepL, rowE, binV, binC, GV.getT, GV.sz, GV.same, Value.oneCell', cond_true, cond_false, Nat.reduceEqDiff, Nat.reduceBEq, ↓reduceIte, List.nil_append, Nat.zero_add, Bool.and_true, Bool.true_and, BEq.rfl, true_and, and_true, Option.map_some, szAll, List.length_cons, List.length_nil, kill, SV.mentions, ne_eq, not_false_eq_true, List.drop_zero, List.take_succ_cons, List.take_zero, getT_nil, List.length_map, gTreeNode_sz, gTreeNode_fits, gTreeNode_fld3, gTreeNode_get3, gTreeNode_set3]
        refine ⟨by omega, ?_⟩
        subst hQ6; simp only [loopQ_n]
        refine ⟨(i6 + 1, os ++ [⟨t.node, t.parent, t.name, v⟩], uni u2 m6), ⟨by simp only; omega, by simp only [List.length_append, List.length_cons, List.length_nil]; omega, ?_⟩, by simp only; omega, ge_of ?_ ?_ rfl rfl rfl⟩
        · simp only
          rw [htake]
          exact TsOwn.snoc (t := ⟨t.node, t.parent, t.name, v⟩) (a := r) ⟨e1, e2, e3, hso⟩ hd2 hos
        · simp only [frIn, look, Nat.reduceEqDiff, ↓reduceIte, Nat.zero_add, Bool.and_true, Bool.true_and, true_and, and_true, List.length_cons, List.length_nil, List.length_append, List.length_cons, List.length_nil]
          rw [wrap_n (by omega)]
          try simp
        · simp only [pvIn, look, Nat.reduceEqDiff, ↓reduceIte, Bool.and_true, and_true, List.map_cons, List.map_nil, List.map_append, List.map_cons, List.map_nil]
          try simp
          try rfl
      · subst hQ6
        simp (maxSteps := 2000000) only [vc_seq, vc_rg, thenQ_n, blockQ_e, loopQ_e, segs_n, ops_cons, vcOp, ↓reduceIte]
        have hi6' : i6 = lb.length := by omega
        rw [hi6', List.take_length] at hos
        clear hi6 h6
        refine gh_pub 19 19 os.length rfl rfl (by simp) fun v u2 hv hso hd2 => ?_
        simp (maxSteps := 2000000) only [dropK, ops_cons, vcOp, ev, look, put_mk, cond_true, cond_false, Nat.reduceEqDiff, Nat.reduceBEq, ↓reduceIte, BEq.rfl, kill, SV.mentions]
        refine call_frzm rfl rfl (Q := fun rs m' => ∃ p e, rs = [.s p, .s (.int .i64 e)] ∧ (e = 0 ↔ fromA lb) ∧ (fromA lb → ∃ L T, p = ptr (L .t) ∧ TM m' L T ∧ T.ok 1048576 ∧ VGood T.view ∧ T.view = viewOf lb)) (fun w' vs hvv hw hph hm => ?_) fun rs mC _ hq => ?_
        · obtain ⟨vs, rfl, _, hvv⟩ := argsV_g hvv
          obtain rfl := argsV_nil hvv
          have s1 : PH.sub u2 w'.ph := fun b o h => hm b o (sub_uni_l _ _ b o h)
          have s2 : PH.sub m6 w'.ph := fun b o h => hm b o (sub_uni_r hd2 b o h)
          refine (From_spec w' v os lb w'.ph (fun _ _ h => h) (hso.toR.up s1) (hos.ok.up s2) 1048576 (by omega) hb.few hb.attrs hb.name hb.wf).mono fun rs m' h => ?_
          by_cases hf : fromA lb
          · obtain ⟨L, T, rfl, k1, k2, k3, _, k4⟩ := h.1 hf
            exact ⟨_, _, rfl, ⟨fun _ => hf, fun _ => rfl⟩, fun _ => ⟨L, T, rfl, k1, k2, k3, k4⟩⟩
          · obtain rfl := h.2 hf
            exact ⟨_, _, rfl, ⟨fun e => absurd e (by decide), fun h => absurd h hf⟩, fun h => absurd h hf⟩
        obtain ⟨p, e, rfl, he, hfr⟩ := hq
        simp (maxSteps := 2000000) only [retS, List.getElem?_cons_zero, List.getElem?_cons_succ, vc_seq, vc_rg, thenQ_n, kKeep_eq, segs_nil, segs_n, ops_nil, ops_cons, vcOp, ev, look, put_mk, keep_mk, keepL, Nat.reduceEqDiff, ↓reduceIte]
        refine call_val (dOk_spec rfl) rfl (Q := fun rs m' => ∃ p bb, rs = [.s p, .s (.bool bb)] ∧ bb = (e == 0)) (fun w' vs hvv hw _ => ?_) fun rs m7 _ hq => ?_
        · obtain ⟨v1, vs, rfl, k1, hvv⟩ := argsV_row (z := 4) (xs := tb.map gTreeNode) rfl (by simp) hvv
          obtain rfl := argsV_nil hvv
          have s1 : PH.sub u w'.ph := fun b o q => hw b o (by rw [u0_no]; exact hu b o q)
          refine (rFrom_spec w' v1 tb lb w'.ph (fun _ _ h => h) k1 (hb.told.up s1) (by omega) (fun r hr => by have := hb.attrs r hr; omega) hb.size hb.name).mono fun rs m' h => ?_
          by_cases hf : fromA lb
          · obtain ⟨b, rfl, _⟩ := h.1 hf
            exact ⟨_, _, rfl, by rw [he.2 hf]; rfl⟩
          · obtain rfl := h.2 hf
            refine ⟨_, _, rfl, ?_⟩
            have : e ≠ 0 := fun h => hf (he.1 h)
            simp [this]
        obtain ⟨p2, bb, rfl, rfl⟩ := hq
        simp (maxSteps := 2000000) only [retS, List.getElem?_cons_zero, List.getElem?_cons_succ, vc_seq, vc_rg, thenQ_n, kKeep_eq, segs_nil, segs_n, ops_nil, ops_cons, vcOp, ev, look, put_mk, keep_mk, keepL, binV, binC, Value.oneCell', cond_true, Nat.reduceEqDiff, ↓reduceIte, Bool.true_and, true_and]
        refine eq_of (eqG_bool Tryz.underlying4 _ _) ?_
        simp (maxSteps := 2000000) only [beq_self_eq_true, vc_skip, vc_seq, vc_rg, vc_ite, thenQ_n, kKeep_eq, segs_nil, segs_n, ops_nil, ops_cons, vcOp, ev, look, put_mk, keep_mk, keepL, Nat.reduceEqDiff, ↓reduceIte, Bool.not_true, ↓br_ft, Bool.bne_true]
        refine gh_own 150 150 (gTreeNode zTreeNode) rfl rfl hso rfl hd2 ?_
        simp (maxSteps := 2000000) only [List.length_map, vc_block, thenQ_n, kKeep_eq, segs_nil, ops_nil, ops_cons, vcOp, ev, look, put_mk, keep_mk, keepL, Value.oneCell', cond_true, Nat.reduceEqDiff, ↓reduceIte, List.length_map]
        clear hso hd2
        refine vc_loop (ι := Nat × PH) (fun q => ⟨[(1, .row 1 0 (tb.length)), (22, .g (.s p)), (23, .g (.s (.int .i64 (e)))), (150, .row 150 0 (os.length)), (151, .g (.s (.int .i64 (os.length)))), (152, .g (.s (.int .i64 (q.1))))], [(1, .ro 4 (gTreeNode zTreeNode) (tb.map gTreeNode)), (150, .row 39 4 (gTreeNode zTreeNode) (os.map gTreeNode))], [mC, my, mx, mR, mA], q.2⟩)
          (fun q => q.1 ≤ os.length ∧ TsOwn q.2 (os.drop q.1) (lb.drop q.1)) (fun q => os.length - q.1) (0, m6) ⟨by simp, hos⟩ (ge_of ?_ ?_ rfl rfl rfl) ?_
        · simp [frIn, look]
        · simp [pvIn, look]
        clear hos
        rintro ⟨j, mc⟩ ⟨hj, hO⟩
        simp only at hj hO
        generalize hQ8 : loopQ _ _ _ _ _ = Q8
        simp (maxSteps := 2000000) only [c_law12_TreeOwn_L8, vc_skip, vc_exit, vc_seq, vc_block, vc_rg, vc_ite, thenQ_n, thenQ_e, kKeep_eq, segs_nil, segs_n, ops_nil, ops_cons, vcOp, ev, look, updL, put_mk, put_mk0, keep_mk, keepL, rowE, rowD, binV, binC, GV.getT, Value.oneCell', cond_true, Nat.reduceEqDiff, ↓reduceIte, List.nil_append, Nat.zero_add, Bool.and_true, Bool.true_and, Bool.not_false, true_and, and_true, Int.toNat_natCast, decide_eq_true_eq, decide_eq_false_iff_not, br_t, getT_nil, setT_nil, fits_s, gTreeNode_sz, gTreeNode_fits, gTreeNode_same, gTreeNode_fld3, gTreeNode_get3, gTreeNode_zero, getD_gTreeNode]
        refine ⟨fun h8 => ⟨⟨by omega, by omega⟩, ?_⟩, fun h8 => ?_⟩
        · obtain ⟨t, ht⟩ : ∃ t, os.getD j zTreeNode = t := ⟨_, rfl⟩
          obtain ⟨r, hr⟩ : ∃ r, lb.getD j zTN = r := ⟨_, rfl⟩
          have hdt : os.drop j = t :: os.drop (j + 1) := by
            rw [← ht, List.getD_eq_getElem?_getD, List.getElem?_eq_getElem (by omega)]
            exact List.drop_eq_getElem_cons (by omega)
          have hdr : lb.drop j = r :: lb.drop (j + 1) := by
            rw [← hr, List.getD_eq_getElem?_getD, List.getElem?_eq_getElem (by omega)]
            exact List.drop_eq_getElem_cons (by omega)
          rw [hdt, hdr] at hO
          obtain ⟨ua, mr, rfl, hdu, ⟨_, _, _, hSa⟩, hOr⟩ := hO
          obtain ⟨tn, tp, tm, tv⟩ := t
          simp only at hSa
          have hAny : AnyA ua tv r.attrs.length := ⟨r.attrs, rfl, hSa⟩
          clear hSa
          have hrm : r ∈ lb := by rw [← hr, List.getD_eq_getElem?_getD, List.getElem?_eq_getElem (by omega)]; exact List.getElem_mem _
          have hrn := hb.attrs r hrm
          generalize r.attrs.length = n at hAny hrn
          obtain ⟨a, c, rfl, hnc⟩ := hAny.len
          rw [ht]
          simp (maxSteps := 2000000) only []
          refine vc_loop (ι := Nat × PH) (fun q => ⟨[(1, .row 1 0 (tb.length)), (22, .g (.s p)), (23, .g (.s (.int .i64 (e)))), (150, .row 150 0 (os.length)), (151, .g (.s (.int .i64 (os.length)))), (152, .g (.s (.int .i64 (j)))), (27, .ref 27 []), (158, .g (.s (.int .i64 (n)))), (159, .g (.s (.int .i64 (q.1))))], [(1, .ro 4 (gTreeNode zTreeNode) (tb.map gTreeNode)), (150, .row 39 4 (gTreeNode zTreeNode) (os.map gTreeNode)), (27, .box (gTreeNode ⟨tn, tp, tm, .slice a n c⟩))], [mC, my, mx, mR, mA], uni q.2 mr⟩)
            (fun q => q.1 ≤ n ∧ dis q.2 mr ∧ AnyA q.2 (.slice a n c) n) (fun q => n - q.1) (0, ua) ⟨by omega, hdu, hAny⟩ (ge_of ?_ ?_ rfl rfl rfl) ?_
          · simp [frIn, look]
          · simp [pvIn, look]
          clear hAny hdu
          rintro ⟨i1, u1⟩ ⟨hi1, hdu, hAny⟩
          simp only at hi1 hdu hAny
          generalize hQ7 : loopQ _ _ _ _ _ = Q7
          simp (maxSteps := 2000000) only [c_law12_TreeOwn_L7, vc_skip, vc_exit, vc_seq, vc_block, vc_rg, vc_ite, thenQ_n, thenQ_e, blockQ_n, kKeep_eq, segs_nil, segs_n, ops_nil, ops_cons, vcOp, ev, look, updL, put_mk, put_mk0, keep_mk, keepL, rowE, rowD, binV, binC, GV.getT, GV.sz, Value.oneCell', cond_true, Nat.reduceEqDiff, ↓reduceIte, List.nil_append, Bool.and_true, Bool.true_and, Bool.not_false, true_and, and_true, decide_eq_true_eq, decide_eq_false_iff_not, br_t, getT_nil, fits_s, gTreeNode_fld3, gTreeNode_get3]
          refine ⟨fun h1 => ?_, fun h1 => ?_⟩
          · obtain ⟨b1, o1, rfl, _⟩ := hAny.place (show i1 < n by omega)
            simp (maxSteps := 2000000) only [Int.toNat_natCast]
            refine ⟨by omega, st_attr rfl hdu hAny (by omega) (k := 1) (by omega) _ fun u2 hd2 hA2 => ?_⟩
            simp (maxSteps := 2000000) only [vc_rg, thenQ_n, blockQ_n, kKeep_eq, segs_nil, segs_n, ops_nil, ops_cons, vcOp, ev, look, put_mk, put_mk0, keep_mk, keepL, binV, binC, Value.oneCell', cond_true, Nat.reduceEqDiff, ↓reduceIte, Bool.true_and, true_and]
            subst hQ7; simp only [loopQ_n]; refine ⟨(i1 + 1, u2), ⟨by simp only; omega, hd2, hA2⟩, by simp only; omega, ge_of ?_ ?_ rfl rfl rfl⟩
            · simp only [frIn, look, Nat.reduceEqDiff, ↓reduceIte, Bool.and_true, Bool.true_and, true_and, and_true]
              rw [wrap_n (by omega)]
              try simp
            · simp [pvIn, look]
          subst hQ7
          simp (maxSteps := 2000000) only [vc_rg, thenQ_n, blockQ_n, blockQ_e, kKeep_eq, loopQ_e, segs_nil, segs_n, ops_nil, ops_cons, vcOp, ev, look, put_mk, keep_mk, keepL, binV, binC, Value.oneCell', cond_true, Nat.reduceEqDiff, ↓reduceIte, Bool.true_and, true_and]
          subst hQ8; simp only [loopQ_n]; refine ⟨(j + 1, uni u1 mr), ⟨by simp only; omega, hOr.junk hdu⟩, by simp only; omega, ge_of ?_ ?_ rfl rfl rfl⟩
          · simp only [frIn, look, Nat.reduceEqDiff, ↓reduceIte, Bool.and_true, Bool.true_and, true_and, and_true]
            rw [wrap_n (by omega)]
            try simp
          · simp [pvIn, look]
        · subst hQ8
          simp (maxSteps := 2000000) only [vc_ret, vc_seq, vc_rg, thenQ_n, blockQ_e, kKeep_eq, loopQ_e, segs_nil, segs_n, segs_g, ops_nil, ops_cons, vcOp, RO.isGh, skip_mk, skipL, ev, look, put_mk, keep_mk, keepL, binV, binC, Value.oneCell', cond_true, cond_false, Nat.reduceEqDiff, ↓reduceIte, Bool.true_and, Bool.not_false, true_and, finW_r, resL, resOne, ↓br_tt, br_f]
          clear hO hj h8
          refine ⟨fun h => ?_, fun _ => trivial⟩
          have he0 : e = 0 := by simpa using h
          have hf := he.1 he0
          obtain ⟨L2, T2, rfl, hT2, hok2, hg2, hv2⟩ := hfr hf
          have hpl : plainL lb = nodesTold T2 := plain_from (fromA_iff.1 hf).1 hv2 hok2 hg2
          have hlx2 := nodesTold_len T2
          have hmx2 := hok2.many
          refine call_frzm rfl rfl (Q := fun rs m' => ∃ v ts, rs = [.s v] ∧ SlR m' v 4 (ts.map gTreeNode) ∧ TsOk m' ts (nodesTold T2)) (fun w' vs hvv _ hph _ => ?_) fun rs mx2 _ hq => ?_
          · obtain ⟨vs, rfl, _, hvv⟩ := argsV_g hvv
            obtain rfl := argsV_nil hvv
            exact Nodes_spec w' mC (hph mC (by simp)) L2 T2 hT2 (ok_tells hok2 (by omega))
          obtain ⟨vx2, tx2, rfl, hsx2, htx2⟩ := hq
          simp (maxSteps := 2000000) only [retS, ops_cons, vcOp, ev, look, put_mk, Nat.reduceEqDiff, ↓reduceIte, ptr]
          refine call_frzm rfl rfl (Q := fun rs m' => ∃ v ts, rs = [.s v] ∧ SlR m' v 4 (ts.map gTreeNode) ∧ TsOk m' ts (plainL lb)) (fun w' vs hvv hw _ _ => ?_) fun rs my2 _ hq => ?_
          · obtain ⟨v1, vs, rfl, k1, hvv⟩ := argsV_row (z := 4) (xs := tb.map gTreeNode) rfl (by simp) hvv
            obtain rfl := argsV_nil hvv
            have s1 : PH.sub u w'.ph := fun b o q => hw b o (by rw [u0_no]; exact hu b o q)
            exact Plain_spec w' v1 tb lb w'.ph (fun _ _ h => h) k1 (hb.told.up s1) (by omega) fun r hr => by have := hb.attrs r hr; omega
          obtain ⟨vy2, ty2, rfl, hsy2, hty2⟩ := hq
          simp (maxSteps := 2000000) only [retS, ops_cons, vcOp, put_mk]
          refine call_ism _ [.s (.bool true)] rfl rfl (fun w' vs hvv _ hph _ => ?_) ?_
          · obtain ⟨vs, rfl, _, hvv⟩ := argsV_g hvv
            obtain ⟨vs, rfl, _, hvv⟩ := argsV_g hvv
            obtain rfl := argsV_nil hvv
            have s1 : PH.sub mx2 w'.ph := hph mx2 (by simp)
            have s2 : PH.sub my2 w'.ph := hph my2 (by simp)
            have := rSame_spec w' vx2 vy2 tx2 ty2 _ _ w'.ph (fun _ _ h => h) (hsx2.up s1) (hsy2.up s2) (htx2.up s1) (hty2.up s2) (by rw [htx2.len]; omega) (fun t ht => by have := nodesTold_few hok2 ht; omega)
            rw [decide_eq_true (by rw [hpl])] at this
            exact this
          simp (maxSteps := 2000000) only [retS, vc_ret, thenQ_n, kKeep_eq, segs_nil, segs_n, ops_nil, ops_cons, vcOp, ev, look, put_mk, keep_mk, keepL, Value.oneCell', cond_true, Nat.reduceEqDiff, ↓reduceIte, finW_r, resL, resOne, ↓br_ft]
end Go.Proofs.YtdpknchgoeboaaaGreat.Vc

/- Rows of nodes that came in. -/
set_option linter.unusedVariables false
set_option linter.unusedSimpArgs false
set_option maxRecDepth 100000
namespace Go.Proofs.YtdpknchgoeboaaaGreat.Vc
open Go Go.Proofs Go.Proofs.YtdpknchgoeboaaaGreat Go.ChangeShapes Go.WideShapes Go.ChangeAt

def Attr.ofRaw (q : Raw) : Attr := ⟨q.y 0, q.y 1⟩
def kAttr : List K1 := [.s, .s]
theorem gAttr_flat (q : Raw) : GV.flat (gAttr (Attr.ofRaw q)) = q.cells kAttr 0 := rfl
def TreeNode.ofRaw (q : Raw) : TreeNode := ⟨q.x 0, q.x 1, q.y 2, q.v 3⟩
def kTN : List K1 := [.i .i64, .i .i64, .s, .sl 37]
theorem gTreeNode_flat (q : Raw) : GV.flat (gTreeNode (TreeNode.ofRaw q)) = q.cells kTN 0 := rfl
theorem cells_Attr : Tryz.prog.cellsOf 41 = 2 := by kernel_rfl
theorem cells_TN : Tryz.prog.cellsOf 39 = 4 := by kernel_rfl

theorem open_Attrs {H : Type} {enc : TypeId × Value → H} {W : World} {v : Value} {n : Nat} (h : RdTB enc Tryz.prog W 37 v n) : ∃ l : List Attr, SlR W.ph v 2 (l.map gAttr) ∧ l.length ≤ n ∧ ∀ a ∈ l, a.key.size ≤ n ∧ a.value.size ≤ n := by
  obtain ⟨l, h1, h2, h3⟩ := rd_sliceB (t := 37) (e := 41) (n0 := 9) (ks := kAttr) (g := fun q => gAttr (Attr.ofRaw q)) (by kernel_rfl) (by kernel_rfl) (by kernel_rfl) (by rw [cells_Attr]; omega) (fun q => gAttr_flat q) (fun q _ => gAttr_ok _) (fun q => by rw [gAttr_sz, cells_Attr]) h
  rw [cells_Attr] at h1
  refine ⟨l.map Attr.ofRaw, by rw [List.map_map]; exact h1, by rw [List.length_map]; exact h2, fun a ha => ?_⟩
  obtain ⟨q, hq, rfl⟩ := List.mem_map.1 ha
  exact ⟨(h3 q hq).2.str (j := 0) rfl, (h3 q hq).2.str (j := 1) rfl⟩
theorem open_Rows {H : Type} {enc : TypeId × Value → H} {W : World} {base n : Nat} {v : Value} (h : RdB enc Tryz.prog W 23 v n) (hv : Value.okWide Tryz.prog W .any base 23 v) (hn : n ≤ 1048576) : ∃ ts l, RowsIn W.ph v ts l 1048576 := by
  have hd := rdtb_of (e := 39) (by kernel_rfl) h hv
  obtain ⟨l, h1, h2, h3⟩ := rd_sliceB (t := 23) (e := 39) (n0 := 9) (ks := kTN) (g := fun q => gTreeNode (TreeNode.ofRaw q)) (by kernel_rfl) (by kernel_rfl) (by kernel_rfl) (by rw [cells_TN]; omega) (fun q => gTreeNode_flat q) (fun q hq => gTreeNode_ok _ (hq 3 _ rfl)) (fun q => by rw [gTreeNode_sz, cells_TN]) hd
  rw [cells_TN] at h1
  have key : ∀ l : List Raw, (∀ q ∈ l, Fine enc Tryz.prog W kTN q ∧ FineB enc Tryz.prog W n kTN q) → ∃ r : List TN, TsOk W.ph (l.map TreeNode.ofRaw) r ∧ ∀ x ∈ r, x.attrs.length ≤ 1048576 ∧ (∀ a ∈ x.attrs, a.key.size ≤ 140737488355328 ∧ a.value.size ≤ 140737488355328) ∧ x.name.size ≤ 140737488355328 ∧ (Lit.int .i64 x.node).wf = true := by
    intro l
    induction l with
    | nil => intro _; exact ⟨[], trivial, by simp⟩
    | cons q l ih =>
      intro hl
      obtain ⟨r, hr1, hr2⟩ := ih fun x hx => hl x (by simp [hx])
      obtain ⟨f1, f2⟩ := hl q (by simp)
      obtain ⟨m, hm, hrd⟩ := f2.rd (j := 3) rfl
      obtain ⟨la, g1, g2, g3⟩ := open_Attrs hrd
      refine ⟨⟨q.x 0, q.x 1, q.y 2, la⟩ :: r, ⟨⟨rfl, rfl, rfl, g1⟩, hr1⟩, fun x hx => ?_⟩
      rcases List.mem_cons.1 hx with rfl | hx
      · refine ⟨by simp only; omega, fun a ha => ?_, ?_, ?_⟩
        · have := g3 a ha; omega
        · have := f2.str (j := 2) rfl
          simp only; omega
        · have := f1.int (j := 0) (k := .i64) rfl
          show (decide (IntKind.i64.min ≤ q.x 0) && decide (q.x 0 ≤ IntKind.i64.max)) = true
          rw [Bool.and_eq_true]
          exact ⟨decide_eq_true this.1, decide_eq_true this.2⟩
      · exact hr2 x hx
  obtain ⟨r, hr1, hr2⟩ := key l h3
  have hlen := hr1.len
  rw [List.length_map] at hlen
  exact ⟨l.map TreeNode.ofRaw, r, ⟨by rw [List.map_map]; exact h1, hr1, by omega, fun x hx => (hr2 x hx).1, fun x hx => (hr2 x hx).2.1, fun x hx => (hr2 x hx).2.2.1, fun x hx => (hr2 x hx).2.2.2⟩⟩

end Go.Proofs.YtdpknchgoeboaaaGreat.Vc

/- TreeOwn: where what is read is of bulk at most the row's bound, the law answers true and leaves its arguments as they were. -/
set_option linter.unusedVariables false
set_option linter.unusedSimpArgs false
set_option maxRecDepth 100000
namespace Go.Proofs.YtdpknchgoeboaaaGreat.Vc
open Go Go.Proofs Go.Proofs.YtdpknchgoeboaaaGreat Go.ChangeShapes Go.WideShapes Go.ChangeAt

theorem TreeOwn_open {H : Type} (enc : TypeId × Value → H) (W : World) (base : Nat) (vs : List Value) (h : RdBs enc Tryz.prog W base [22, 23] vs 1048576) (_ : W.ShapedOpen Tryz.prog) : Spec Tryz.prog f_law12_TreeOwn vs PH.no W fun rs _ => rs = [.s (.bool true)] := by
  obtain ⟨v1, vs, a, b, rfl, hab, h1, g1, h⟩ := rdbs_cons h
  obtain ⟨v2, vs, a2, b2, rfl, hab2, h2, g2, h⟩ := rdbs_cons h
  obtain rfl := rdbs_nil h
  obtain ⟨ops, k1, l1, o1⟩ := open_Ops h1 g1
  obtain ⟨tb, lb, kb⟩ := open_Rows h2 g2 (by omega)
  exact own12_spec W v1 v2 ops tb lb W.ph (fun _ _ h => h) k1 (by omega) o1 kb
theorem TreeOwn_reads (os : Os) {H : Type} (enc : TypeId × Value → H) : ∃ places, DataW.whole enc Tryz.prog ((World.holding Tryz.prog os ⟨#[], #[], []⟩).forCall (fun _ _ => 0) ⟨#[], #[.slice none 0 0, .slice none 0 0], []⟩).memory Tryz.f3.params.toList Rows.treeOwnSpec.vars false (#[.slice none 0 0, .slice none 0 0] : Array Value).toList 8 = some ([.nil, .nil], [], places) :=
  ⟨[], by kernel_rfl⟩
theorem TreeOwn_lifted (os : Os) (started : os.Started) (H : Type) (enc : TypeId × Value → H) (F : Stop.Interp) :
    ReturnsInHanded {} Tryz.checked os f_law12_TreeOwn .any ((Rows.OpenSpec.upto Rows.treeOwnSpec).preRow enc Tryz.prog Tryz.f3 Rows.treeOwnUptoRow.domain false Rows.treeOwnUptoRow.laid) (((Rows.OpenSpec.upto Rows.treeOwnSpec).at F).post enc Tryz.prog Tryz.f3 false true false false) := by
  obtain ⟨places, hx⟩ := TreeOwn_reads os enc
  exact law_lifted_upto (C := Tryz.checked) Try_own Try_laidOut started (by kernel_rfl) Tryz.func3
    (witness_row_at (enc := enc) (C := Tryz.checked) false (World.holding Tryz.prog os ⟨#[], #[], []⟩) #[.slice none 0 0, .slice none 0 0] rfl (by kernel_rfl) (by kernel_rfl) (by kernel_rfl)
      (OpenSpec.preRow_of_cond 8 hx (by kernel_rfl) (fun k hk => by cases hk; kernel_rfl) (by kernel_rfl) (laidMet_of_run' 8 (by kernel_rfl) (by kernel_rfl))))
    (by kernel_rfl) rfl (tb := 4) (by kernel_rfl) (by kernel_rfl) (ts := [22, 23]) (by kernel_rfl) (fun ds h => by match ds, h with | [d0, d1], _ => rfl) (TreeOwn_open enc)
theorem TreeOwn_upto : Rows.TreeOwnUptoSaid :=
  OpenClaim.holds_of_cond f_law12_TreeOwn Tryz.f3 rfl rfl rfl rfl rfl rfl rfl ⟨rfl, rfl, rfl, rfl, rfl⟩ rfl rfl rfl rfl rfl (by kernel_rfl) Tryz.func3 (by kernel_rfl)
    (of_decide_eq_true (by kernel_rfl)) (by unfold Func.isWrapper; first | (rw [if_pos (by decide +kernel)]; kernel_rfl) | (rw [if_neg (by decide +kernel)]; exact ⟨rfl, rfl⟩))
    (fun os started H enc _ F => by rw [OpenClaim.pre_eq_preRow]; exact TreeOwn_lifted os started H enc F)
#print axioms TreeOwn_upto
end Go.Proofs.YtdpknchgoeboaaaGreat.Vc

