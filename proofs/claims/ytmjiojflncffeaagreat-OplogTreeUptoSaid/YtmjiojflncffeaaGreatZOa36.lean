/- OplogTree: where what is read is of bulk at most the row's bound, the law answers true and leaves its argument as it was. -/
import Derived.Test.YtmjiojflncffeaaGreatProg
import Derived.Test.YtmjiojflncffeaaGreatZOa35
/- The document's lists of nodes: compared. -/
set_option linter.unusedVariables false
set_option linter.unusedSimpArgs false
set_option maxRecDepth 100000
namespace Go.Proofs.YtmjiojflncffeaaGreat.Vc
open Go Go.Proofs

theorem SlR.spot {u : PH} {a : Option Addr} {n c z : Nat} {xs : List GV} (h : SlR u (.slice a n c) z xs) (hne : 0 < xs.length) :
    ∃ b o, a = some ⟨b, o, none⟩ ∧ n = xs.length ∧ n ≤ c ∧ ∀ {C : Ctx} {ph : List PH} {m : PH}, KN C.u0 (m :: ph) u → ∀ i x, xs[i]? = some x → Seen C ph m b (o + i * z) x := by
  rcases h.shape with ⟨h1, _⟩ | ⟨_, b, o, c', h1, h2, h3⟩
  · subst h1; simp at hne
  · simp only [Value.slice.injEq] at h1
    obtain ⟨rfl, rfl, rfl⟩ := h1
    exact ⟨b, o, rfl, rfl, h2, h3⟩
theorem seen_fst {C : Ctx} {ph : List PH} {m : PH} {b o : Nat} {x y : GV} (h : Seen C ph m b o (.c x y)) : Seen C ph m b o x := by
  obtain ⟨h1, cs, e, fz, h2, h3⟩ := h
  exact ⟨h1.1, cs, e, fz, h2, fun j v hj => h3 j v (by
    rw [GV.flat, List.getElem?_append_left (List.getElem?_eq_some_iff.1 hj).1]; exact hj)⟩
theorem seen_snd {C : Ctx} {ph : List PH} {m : PH} {b o k : Nat} {x y : GV} (h : Seen C ph m b o (.c x y)) (hk : k = o + x.sz) : Seen C ph m b k y := by
  obtain ⟨h1, cs, e, fz, h2, h3⟩ := h
  subst hk
  exact ⟨h1.2, cs, e, fz, h2, fun j v hj => by
    have := h3 (x.sz + j) v (by
      rw [GV.flat, List.getElem?_append_right (by rw [GV.flat_len x h1.1]; omega), GV.flat_len x h1.1, Nat.add_sub_cancel_left]; exact hj)
    rw [Nat.add_assoc]; exact this⟩
theorem seen_TN {C : Ctx} {ph : List PH} {m : PH} {b o : Nat} {t : TreeNode} (h : Seen C ph m b o (gTreeNode t)) : Seen C ph m b o (.s (.int .i64 t.node)) ∧ Seen C ph m b (o + 1) (.s (.int .i64 t.parent)) ∧ Seen C ph m b (o + 2) (.s (.string t.name)) ∧ Seen C ph m b (o + 3) (.s t.attrs) := by
  have h1 := seen_snd (k := o + 1) h rfl
  have h2 := seen_snd (k := o + 2) h1 rfl
  have h3 := seen_snd (k := o + 3) h2 rfl
  exact ⟨seen_fst h, seen_fst h1, seen_fst h2, seen_fst h3⟩
theorem seen_AT {C : Ctx} {ph : List PH} {m : PH} {b o : Nat} {t : Attr} (h : Seen C ph m b o (gAttr t)) : Seen C ph m b o (.s (.string t.key)) ∧ Seen C ph m b (o + 1) (.s (.string t.value)) :=
  ⟨seen_fst h, seen_fst (seen_snd (k := o + 1) h rfl)⟩
theorem TnOk_one {u : PH} {t : TreeNode} {l : List Attr} (h : SlR u t.attrs 2 (l.map gAttr)) : t.attrs.oneCell' = true := by
  rcases h.2 with ⟨e, _⟩ | ⟨ad, c, e, _⟩ <;> rw [e] <;> rfl

theorem rSameNode_spec (w : World) (t1 t2 : TreeNode) (a b : TN) (u : PH) (hu : u.le w) (h1 : t1.node = a.node ∧ t1.parent = a.parent ∧ t1.name = a.name ∧ SlR u t1.attrs 2 (a.attrs.map gAttr)) (h2 : t2.node = b.node ∧ t2.parent = b.parent ∧ t2.name = b.name ∧ SlR u t2.attrs 2 (b.attrs.map gAttr))
    (hb : a.attrs.length ≤ 140737488355328) :
    Spec Tryz.prog f_ref12_SameNode [(gTreeNode t1).val, (gTreeNode t2).val] PH.no w fun rs _ => rs = [.s (.bool (decide (a = b)))] := by
  refine spec_val k_ref12_SameNode (Qf := fun rs => rs = [.s (.bool (decide (a = b)))]) [.g (gTreeNode t1), .g (gTreeNode t2)] (by simp) (by simp [AV.ok, gTreeNode_ok t1 (TnOk_one h1.2.2.2), gTreeNode_ok t2 (TnOk_one h2.2.2.2)]) ?_
  obtain ⟨n1, p1, m1, la⟩ := a
  obtain ⟨n2, p2, m2, lb⟩ := b
  obtain ⟨n1', p1', m1', v1⟩ := t1
  obtain ⟨n2', p2', m2', v2⟩ := t2
  obtain ⟨e1, e2, e3, h1⟩ := h1
  obtain ⟨g1, g2, g3, h2⟩ := h2
  simp only at e1 e2 e3 g1 g2 g3 h1 h2 hb
  subst e1; subst e2; subst e3; subst g1; subst g2; subst g3
  obtain ⟨a1, c1, hv1⟩ := slr_len h1
  obtain ⟨a2, c2, hv2⟩ := slr_len h2
  rw [List.length_map] at hv1 hv2
  subst hv1; subst hv2
  simp (maxSteps := 2000000) only [c_ref12_SameNode, vc_skip, vc_ret, vc_seq, vc_block, vc_rg, vc_ite, thenQ_n, thenQ_r, kKeep_eq, segs_nil, segs_n, segs_g, ops_nil, ops_cons, vcOp, RO.isGh, skip_mk, skipL, ev, look, updL, put_mk, keep_mk, keepL, binV, binC, GV.getT, Value.oneCell', cond_true, cond_false, Nat.reduceEqDiff, ↓reduceIte, reduceCtorEq, List.nil_append, Nat.zero_add, Bool.true_and, Bool.not_false, true_and, initF, initP, finW_r, resL, resOne, ↓br_tt, ↓br_tf, ↓br_ft, br_t, br_f, getT_nil, fits_s, gTreeNode_fld0, gTreeNode_get0, gTreeNode_fld1, gTreeNode_get1, gTreeNode_fld2, gTreeNode_get2, gTreeNode_fld3, gTreeNode_get3]
  refine ⟨fun k1 => ⟨fun k2 => ⟨fun k3 => ⟨fun k4 => ?_, fun k4 => ?_⟩, fun k3 => ?_⟩, fun k2 => ?_⟩, fun k1 => ?_⟩
  · rw [bne_iff_ne] at k4
    rw [decide_eq_false fun e => k4 (by cases e; rfl)]
  · rw [bne_eq_false_iff_eq] at k1 k2 k4
    simp only [Bool.not_eq_false', decide_eq_true_eq] at k3
    have hll : la.length = lb.length := by omega
    subst k1; subst k2; subst k3
    refine vc_loop (ι := Nat) (fun i => ⟨[(2, .ref 2 []), (3, .ref 3 []), (5, .g (.s (.int .i64 (i))))], [(2, .box (gTreeNode ⟨n1', p1', m1', .slice a1 la.length c1⟩)), (3, .box (gTreeNode ⟨n1', p1', m1', .slice a2 lb.length c2⟩))], [], PH.no⟩) (fun i => i ≤ la.length ∧ la.take i = lb.take i) (fun i => la.length - i) 0 (by simp) (ge_of ?_ ?_ rfl rfl rfl) ?_
    · simp [frIn, look]
    · simp [pvIn, look]
    rintro i ⟨hi, hj⟩
    generalize hQ : loopQ _ _ _ _ _ = Q
    by_cases hlt : i < la.length
    · obtain ⟨b1, o1, rfl, _, _, s1⟩ := h1.spot (by simp; omega)
      obtain ⟨b2, o2, rfl, _, _, s2⟩ := h2.spot (by simp; omega)
      have hx1 : (la.map gAttr)[i]? = some (gAttr (la.getD i zAttr)) := by rw [List.getElem?_map, List.getD_eq_getElem?_getD, List.getElem?_eq_getElem hlt]; rfl
      have hx2 : (lb.map gAttr)[i]? = some (gAttr (lb.getD i zAttr)) := by rw [List.getElem?_map, List.getD_eq_getElem?_getD, List.getElem?_eq_getElem (by omega)]; rfl
      simp (maxSteps := 2000000) only [c_ref12_SameNode_L0, vc_skip, vc_exit, vc_seq, vc_block, vc_rg, vc_rgq, vc_ite, thenQ_n, thenQ_e, kKeep_eq, segs_nil, segs_n, ops_nil, ops_cons, qsegs_n, qops_cons, vcqOp, vcOp, isRd, ev, look, put_mk, keep_mk, keepL, binV, binC, GV.getT, Nat.reduceEqDiff, ↓reduceIte, List.nil_append, Bool.true_and, Bool.not_false, true_and, Int.toNat_natCast, decide_eq_true_eq, decide_eq_false_iff_not, br_t, getT_nil, fits_s, gTreeNode_fld3, gTreeNode_get3]
      refine ⟨fun _ => ⟨⟨by omega, by omega⟩, ld_of _ (s1 (kn_u hu) i _ hx1) (gAttr_fits _) ?_⟩, fun h => absurd (show (i : Int) < la.length by omega) h⟩
      simp (maxSteps := 2000000) only [qops_cons, vcqOp, vcOp, isRd, ev, look, put_mk, GV.getT, Nat.reduceEqDiff, ↓reduceIte, List.nil_append, Bool.true_and, Bool.not_false, true_and, Int.toNat_natCast, getT_nil, fits_s, gTreeNode_fld3, gTreeNode_get3]
      refine ⟨⟨by omega, by omega⟩, ld_of _ (s2 (kn_u hu) i _ hx2) (gAttr_fits _) ?_⟩
      simp (maxSteps := 2000000) only [segs_n, ops_cons, qsegs_nil, qops_nil, vcOp, ev, look, put_mk, Nat.reduceEqDiff, ↓reduceIte]
      refine eq_of (eqG_attr _ _) ?_
      simp (maxSteps := 2000000) only [Bool.not_eq_true', Bool.not_eq_false', decide_eq_false_iff_not, decide_eq_true_eq, vc_skip, vc_ret, vc_seq, vc_rg, vc_ite, thenQ_n, thenQ_r, blockQ_n, blockQ_r, kKeep_eq, segs_nil, segs_n, ops_nil, ops_cons, vcOp, ev, look, put_mk, keep_mk, keepL, binV, binC, Value.oneCell', cond_true, Nat.reduceEqDiff, ↓reduceIte, Bool.true_and, true_and, decide_eq_true_eq, decide_eq_false_iff_not, br_t, Bool.bne_true]
      refine ⟨fun hne => ?_, fun he => ?_⟩
      · subst hQ
        simp (maxSteps := 2000000) only [thenQ_r, blockQ_r, loopQ_r, look, ↓reduceIte, finW_r, resL, resOne]
        rw [decide_eq_false fun e => hne (by cases e; rfl)]
      · subst hQ; simp only [loopQ_n]; refine ⟨i + 1, ?_, ?_, ge_of ?_ ?_ rfl rfl rfl⟩
        · refine ⟨by omega, ?_⟩
          rw [List.take_add_one, List.take_add_one, hj]
          congr 1
          rw [List.getD_eq_getElem?_getD, List.getD_eq_getElem?_getD, List.getElem?_eq_getElem (by omega), List.getElem?_eq_getElem (by omega)] at he
          rw [List.getElem?_eq_getElem (by omega), List.getElem?_eq_getElem (by omega)]
          simpa using he
        · omega
        · simp only [frIn, look, Nat.reduceEqDiff, ↓reduceIte, Bool.and_true, Bool.true_and, true_and, and_true]
          rw [wrap_n (by omega)]
          try simp
        · simp [pvIn, look]
    · simp (maxSteps := 2000000) only [c_ref12_SameNode_L0, vc_skip, vc_exit, vc_seq, vc_block, vc_rg, vc_rgq, vc_ite, thenQ_n, thenQ_e, kKeep_eq, segs_nil, segs_n, ops_nil, ops_cons, qsegs_nil, qsegs_n, qops_nil, qops_cons, vcqOp, vcOp, isRd, ev, look, put_mk, keep_mk, keepL, rowE, rowD, binV, binC, GV.getT, Nat.reduceEqDiff, ↓reduceIte, List.nil_append, Bool.true_and, Bool.not_false, true_and, decide_eq_true_eq, decide_eq_false_iff_not, br_t, getT_nil, fits_s, gTreeNode_fld3, gTreeNode_get3]
      refine ⟨fun h => absurd (show i < la.length by omega) hlt, fun _ => ?_⟩
      subst hQ
      simp (maxSteps := 2000000) only [vc_ret, vc_seq, vc_rg, thenQ_n, blockQ_e, kKeep_eq, loopQ_e, segs_nil, segs_n, ops_nil, ops_cons, vcOp, ev, look, put_mk, keep_mk, keepL, Value.oneCell', cond_true, ↓reduceIte, finW_r, resL, resOne]
      have e1 : la.take i = la := List.take_of_length_le (by omega)
      have e2 : lb.take i = lb := List.take_of_length_le (by omega)
      rw [e1, e2] at hj
      rw [decide_eq_true (by rw [hj])]
  · rw [decide_eq_false fun e => by cases e; simp at k3]
  · rw [bne_iff_ne] at k2
    rw [decide_eq_false fun e => k2 (by cases e; rfl)]
  · rw [bne_iff_ne] at k1
    rw [decide_eq_false fun e => k1 (by cases e; rfl)]

theorem rSame_spec (w : World) (va vb : Value) (ts1 ts2 : List TreeNode) (l1 l2 : List TN) (u : PH) (hu : u.le w) (ha : SlR u va 4 (ts1.map gTreeNode)) (hb : SlR u vb 4 (ts2.map gTreeNode)) (h1 : TsOk u ts1 l1) (h2 : TsOk u ts2 l2)
    (hn : ts1.length ≤ 140737488355328) (hs1 : ∀ t ∈ l1, t.attrs.length ≤ 140737488355328) :
    Spec Tryz.prog f_ref12_Same [va, vb] PH.no w fun rs _ => rs = [.s (.bool (decide (l1 = l2)))] := by
  refine spec_val k_ref12_Same (Qf := fun rs => rs = [.s (.bool (decide (l1 = l2)))]) [.ro va 4 (gTreeNode zTreeNode) (ts1.map gTreeNode), .ro vb 4 (gTreeNode zTreeNode) (ts2.map gTreeNode)] (by simp) (by simpa [AV.ok, u0_no] using ⟨ha.up hu.sub, hb.up hu.sub⟩) ?_
  have hl1 := h1.len
  have hl2 := h2.len
  simp (maxSteps := 2000000) only [c_ref12_Same, vc_skip, vc_ret, vc_seq, vc_block, vc_rg, vc_ite, thenQ_n, thenQ_r, kKeep_eq, segs_nil, segs_n, ops_nil, ops_cons, vcOp, ev, look, put_mk, keep_mk, keepL, binV, binC, Value.oneCell', cond_true, Nat.reduceEqDiff, ↓reduceIte, reduceCtorEq, Nat.zero_add, Bool.true_and, true_and, initF, initP, finW_r, resL, resOne, br_t, List.length_map, List.length_map]
  refine ⟨fun hne => ?_, fun heq => ?_⟩
  · rw [bne_iff_ne] at hne
    rw [decide_eq_false fun e => hne (by rw [hl1, hl2, e])]
  rw [bne_eq_false_iff_eq] at heq
  refine vc_loop (ι := Nat) (fun i => ⟨[(0, .row 0 0 (ts1.length)), (1, .row 1 0 (ts2.length)), (5, .g (.s (.int .i64 (i))))], [(0, .ro 4 (gTreeNode zTreeNode) (ts1.map gTreeNode)), (1, .ro 4 (gTreeNode zTreeNode) (ts2.map gTreeNode))], [], PH.no⟩) (fun i => i ≤ ts1.length ∧ l1.take i = l2.take i) (fun i => ts1.length - i) 0 (by simp) (ge_of ?_ ?_ rfl rfl rfl) ?_
  · simp [frIn, look]
  · simp [pvIn, look]
  rintro i ⟨hi, hj⟩
  generalize hQ : loopQ _ _ _ _ _ = Q
  simp (maxSteps := 2000000) only [c_ref12_Same_L0, vc_skip, vc_exit, vc_seq, vc_block, vc_rg, vc_rgq, vc_ite, thenQ_n, thenQ_e, kKeep_eq, segs_nil, segs_n, ops_nil, ops_cons, qsegs_nil, qsegs_n, qops_nil, qops_cons, vcqOp, vcOp, isRd, ev, look, put_mk, keep_mk, keepL, rowE, rowD, binV, binC, Nat.reduceEqDiff, ↓reduceIte, reduceCtorEq, Nat.zero_add, Bool.true_and, true_and, Int.toNat_natCast, decide_eq_true_eq, decide_eq_false_iff_not, br_t, getT_nil, gTreeNode_fits, getD_gTreeNode]
  refine ⟨fun hlt => ⟨⟨by omega, by omega⟩, ⟨by omega, by omega⟩, ?_⟩, fun hlt => ?_⟩
  · have g1 := h1.at i (by omega)
    have g2 := h2.at i (by omega)
    have hm1 : l1.getD i zTN ∈ l1 := by rw [List.getD_eq_getElem?_getD, List.getElem?_eq_getElem (by omega)]; exact List.getElem_mem _
    refine call_is _ [.s (.bool (decide (l1.getD i zTN = l2.getD i zTN)))] rfl rfl (fun w' vs hv hw => ?_) ?_
    · obtain ⟨vs, rfl, _, hv⟩ := argsV_g hv
      obtain ⟨vs, rfl, _, hv⟩ := argsV_g hv
      obtain rfl := argsV_nil hv
      intro _
      exact rSameNode_spec w' _ _ _ _ u (fun b o h => hw b o (by rw [u0_no]; exact hu b o h)) g1 g2 (hs1 _ hm1)
    simp (maxSteps := 2000000) only [retS, Bool.not_eq_true', Bool.not_eq_false', decide_eq_false_iff_not, decide_eq_true_eq, vc_skip, vc_ret, vc_seq, vc_rg, vc_ite, thenQ_n, thenQ_r, blockQ_n, blockQ_r, kKeep_eq, segs_nil, segs_n, ops_nil, ops_cons, vcOp, ev, look, put_mk, keep_mk, keepL, binV, binC, unV, Value.oneCell', cond_true, Nat.reduceEqDiff, ↓reduceIte, reduceCtorEq, Bool.true_and, true_and, decide_eq_true_eq, decide_eq_false_iff_not, br_t]
    refine ⟨fun hne => ?_, fun he => ?_⟩
    · subst hQ
      simp (maxSteps := 2000000) only [thenQ_r, blockQ_r, loopQ_r, look, ↓reduceIte, finW_r, resL, resOne]
      rw [decide_eq_false fun e => hne (by rw [e])]
    · subst hQ; simp only [loopQ_n]; refine ⟨i + 1, ?_, ?_, ge_of ?_ ?_ rfl rfl rfl⟩
      · refine ⟨by omega, ?_⟩
        rw [List.take_add_one, List.take_add_one, hj]
        congr 1
        rw [List.getD_eq_getElem?_getD, List.getD_eq_getElem?_getD, List.getElem?_eq_getElem (by omega), List.getElem?_eq_getElem (by omega)] at he
        rw [List.getElem?_eq_getElem (by omega), List.getElem?_eq_getElem (by omega)]
        simpa using he
      · omega
      · simp only [frIn, look, Nat.reduceEqDiff, ↓reduceIte, reduceCtorEq, Bool.and_true, Bool.true_and, true_and, and_true]
        rw [wrap_n (by omega)]
        try simp
      · simp [pvIn, look]
  · subst hQ
    simp (maxSteps := 2000000) only [vc_ret, vc_seq, vc_rg, thenQ_n, blockQ_e, kKeep_eq, loopQ_e, segs_nil, segs_n, ops_nil, ops_cons, vcOp, ev, look, put_mk, keep_mk, keepL, Value.oneCell', cond_true, ↓reduceIte, finW_r, resL, resOne]
    have e1 : l1.take i = l1 := List.take_of_length_le (by omega)
    have e2 : l2.take i = l2 := List.take_of_length_le (by omega)
    rw [e1, e2] at hj
    rw [decide_eq_true hj]
end Go.Proofs.YtmjiojflncffeaaGreat.Vc

/- A log is cut. -/
set_option linter.unusedVariables false
set_option linter.unusedSimpArgs false
set_option maxRecDepth 100000
namespace Go.Proofs.YtmjiojflncffeaaGreat.Vc
open Go Go.Proofs

/-- How many operations are at or below a time. -/
def cutA (ds : List Done) (t : Int) : Nat := (ds.takeWhile fun d => decide (d.op.stamp.time ≤ t)).length
theorem cutA_le (ds : List Done) (t : Int) : cutA ds t ≤ ds.length := (List.takeWhile_prefix _).length_le
theorem cutA_of : ∀ {ds : List Done} {t : Int} {i : Nat}, i ≤ ds.length → (∀ j, j < i → (ds.getD j zDone).op.stamp.time ≤ t) → (i < ds.length → ¬ (ds.getD i zDone).op.stamp.time ≤ t) → cutA ds t = i
  | [], t, i, h, _, _ => by simp at h; subst h; rfl
  | d :: ds, t, 0, _, _, h => by
    have : ¬ d.op.stamp.time ≤ t := h (by simp)
    simp [cutA, List.takeWhile_cons, this]
  | d :: ds, t, i + 1, h, h1, h2 => by
    have h0 : d.op.stamp.time ≤ t := h1 0 (by omega)
    have ih := cutA_of (ds := ds) (t := t) (i := i) (by simpa using h) (fun j hj => h1 (j + 1) (by omega)) (fun hi => h2 (by simpa using hi))
    simp only [cutA] at ih
    simp [cutA, List.takeWhile_cons, h0, ih]
/-- The log behind a cut. -/
def PL.cut (p : PL) (t : Int) (i1 : List Int) : PL := { p with B := ideal p.B ((p.ds.take (cutA p.ds t)).map (·.op)), fr := t, ds := p.ds.drop (cutA p.ds t), i0 := i1 }
theorem PL.good.cut {p : PL} {mk : Value} {kb q : Nat} (h : p.good mk kb q) (t : Int) : ∃ i1, (p.cut t i1).good mk (kb + cutA p.ds t) q := by
  have hl := cutA_le p.ds t
  generalize hn : cutA p.ds t = n at hl
  have hh := h.fl.hist
  rw [← List.take_append_drop n p.ds] at hh
  obtain ⟨i1, _, h2⟩ := hh.drop
  have ho : ∀ op ∈ (p.ds.take n).map (·.op), OpOk op := fun op hop => by
    obtain ⟨d, hd, rfl⟩ := List.mem_map.1 hop
    exact h.ops d (List.mem_of_mem_take hd)
  refine ⟨i1, ⟨⟨?_, ?_, h.fl.ex, h.fl.last, h.fl.ids⟩, ?_, ?_, ?_, ?_, ?_⟩⟩
  · simp only [PL.cut, hn]; exact h2
  · simp only [PL.cut, hn]
    rw [← ideal_app, ← List.map_append, List.take_append_drop]
    exact h.fl.view
  · simp only [PL.cut, hn]
    have := ideal_ok h.bok ho
    rwa [List.length_map, List.length_take, Nat.min_eq_left hl] at this
  · simp only [PL.cut, hn]
    exact ideal_good h.bok h.bgood ho
  · simp only [PL.cut, hn, List.length_drop]
    have := h.many
    omega
  · simp only [PL.cut, hn]
    exact List.Pairwise.sublist ((List.drop_sublist _ _).map _) h.ris
  · simp only [PL.cut, hn]
    exact fun d hd => h.ops d (List.mem_of_mem_drop hd)

theorem LogM.reI {m : PH} {b : Nat} {L Lb : Lay} {p : PL} (h : LogM m b L Lb p) (i : List Int) : LogM m b L Lb { p with i0 := i } := by
  obtain ⟨ov, e, mo, mT, mB, rfl, q⟩ := h
  exact ⟨ov, e, mo, mT, mB, rfl, ⟨q.d1, q.d2, q.d3, q.ops, q.tree, q.base⟩⟩
theorem sub_skip {a c x : PH} (h : dis a x) : PH.sub (uni c x) (uni c (uni a x)) := fun k o hk => by
  simp only [uni] at hk ⊢
  cases h1 : c k with
  | some y => rw [h1] at hk; simpa [h1] using hk
  | none =>
    rw [h1] at hk
    have hk : x k = some o := by simpa using hk
    have := sub_uni_r h k o hk
    simpa [uni] using this
theorem cut_spec (w : World) (m : PH) (b : Nat) (L Lb : Lay) (p : PL) (hL : LogM m b L Lb p) {mk : Value} {kb q : Nat} (hg : p.good mk kb q) (hq : q < 1099511627776) (hfew : p.ds.length ≤ 549755813888) (t : Int) :
    Spec Tryz.prog f_oplog_Log_Cut [ptr b, .int .i64 t] m w fun rs m' =>
      (t < p.fr ∨ 1099511627776 < t → rs = [.s (.int .i64 1)] ∧ LogM m' b L Lb p) ∧
      (¬ (t < p.fr ∨ 1099511627776 < t) → rs = [.s (.int .i64 0)] ∧ ∀ i1, ∃ Lb', Lb' .t = Lb .t ∧ LogM m' b L Lb' (p.cut t i1)) := by
  refine spec_of k_oplog_Log_Cut [.g (.s (ptr b)), .g (.s (.int .i64 t))] (by simp) (by simp [AV.ok, GV.ok, Value.oneCell', ptr]) ?_
  have hof : ∀ d ∈ p.ds, d.undo.of.oneCell' = true ∨ True := fun d hd => .inr trivial
  obtain ⟨ov0, _, _, hS0, _, _, hs0⟩ := hL.look
  simp (maxSteps := 2000000) only [c_oplog_Log_Cut, ptr, vc_seq, vc_block, vc_rg, thenQ_n, kKeep_eq, segs_nil, segs_n, ops_nil, ops_cons, vcOp, ev, look, put_mk, keep_mk, keepL, Value.oneCell', cond_true, Nat.reduceEqDiff, ↓reduceIte, reduceCtorEq, Nat.zero_add, initF, initP, ptr]
  refine call_ism _ [.s (.bool false)] rfl rfl (fun w' vs hv _ _ hm => ?_) ?_
  · obtain ⟨vs, rfl, _, hv⟩ := argsV_g hv
    obtain rfl := argsV_nil hv
    exact logNone_spec hm hL
  simp (maxSteps := 2000000) only [retS, vc_seq, vc_rg, vc_ite, thenQ_n, kKeep_eq, segs_nil, segs_n, ops_nil, ops_cons, vcOp, ev, look, put_mk, keep_mk, keepL, Nat.reduceEqDiff, ↓reduceIte, reduceCtorEq, Nat.zero_add, ↓br_ft]
  refine ld_of _ (hs0 (KN.mem (by simp))).2.2.1 rfl ?_
  simp (maxSteps := 2000000) only [vc_skip, vc_ret, vc_seq, vc_block, vc_rg, vc_ite, thenQ_n, thenQ_r, blockQ_n, blockQ_r, kKeep_eq, finQ_r, segs_nil, segs_n, segs_g, ops_nil, ops_cons, vcOp, RO.isGh, skip_mk, skipL, ev, look, put_mk, keep_mk, keepL, binV, binC, Value.oneCell', cond_true, cond_false, Nat.reduceEqDiff, ↓reduceIte, reduceCtorEq, Bool.true_and, Bool.not_false, true_and, decide_eq_true_eq, decide_eq_false_iff_not, ↓br_tt, ↓br_ft, br_t, br_f]
  refine ⟨fun h1 => ⟨fun h2 => fin_m m rfl (fun _ _ h => h) ⟨fun _ => ⟨rfl, hL⟩, fun h => absurd (.inr h2) h⟩, fun h2 => ?_⟩, fun h1 => fin_m m rfl (fun _ _ h => h) ⟨fun _ => ⟨rfl, hL⟩, fun h => absurd (.inl h1) h⟩⟩
  refine vc_loop (ι := Nat × Lay × PH) (fun x => ⟨[(0, .g (.s (.pointer (some ⟨b, 0, none⟩)))), (1, .g (.s (.int .i64 (t)))), (5, .g (.s (.int .i64 (x.1))))], [], [], x.2.2⟩)
    (fun x => x.1 ≤ p.ds.length ∧ (∀ j, j < x.1 → (p.ds.getD j zDone).op.stamp.time ≤ t) ∧ x.2.1 .t = Lb .t ∧ LogM x.2.2 b L x.2.1 { p with B := ideal p.B ((p.ds.take x.1).map (·.op)) }) (fun x => p.ds.length - x.1) (0, Lb, m) ⟨by simp, by simp, rfl, hL⟩ (ge_of ?_ ?_ rfl rfl rfl) ?_
  · simp [frIn, look]
  · simp [pvIn, look]
  rintro ⟨n, L1, m1⟩ ⟨hn, hj, hL1, hM⟩
  simp only at hn hj hL1 hM
  generalize hQ : loopQ _ _ _ _ _ = Q
  obtain ⟨ov, mT, mB, hS, _, _, hs⟩ := hM.look
  have hs1 := hs (C := ⟨Tryz.prog, 70, w, m⟩) (ph := []) (m' := m1) (KN.mem (by simp))
  have stop : (n < p.ds.length → ¬ (p.ds.getD n zDone).op.stamp.time ≤ t) → ∀ σ : SS, Ge σ ⟨[(0, .g (.s (.pointer (some ⟨b, 0, none⟩)))), (1, .g (.s (.int .i64 (t)))), (5, .g (.s (.int .i64 (n))))], [], [], m1⟩ → Q (.exit 1) σ := by
    intro hst σ hσ
    subst hQ
    simp only [loopQ_e, blockQ_e, if_true, thenQ_n, vc_seq]
    refine vc_gh_of_ge hσ ?_
    simp (maxSteps := 2000000) only [vc_rg, segs_n, ops_cons, vcOp, ev, look, put_mk, ↓reduceIte, reduceCtorEq, Nat.zero_add]
    have hs3 := hs1.2.2.2.1
    refine ld_of _ hs3 rfl ?_
    simp (maxSteps := 2000000) only [ops_cons, vcOp, ev, look, put_mk, Nat.reduceEqDiff, ↓reduceIte, reduceCtorEq]
    refine gh_id ?_
    refine ops_sl (l := n) (h := p.ds.length) rfl hS rfl (fun d hd => by rw [hd, List.length_map]; rfl) hn (by simp) fun v63 hv1 hv2 => ?_
    rw [List.take_of_length_le (by simp)] at hv2
    simp (maxSteps := 2000000) only [ops_cons, vcOp, put_mk]
    refine call_ownm rfl rfl (Q := fun rs m' => ∃ v', rs = [.s v'] ∧ SlO m' v' 97 22 ((p.ds.drop n).map gDone)) (fun w' vs hv _ _ hm => ?_) fun rs mD _ hq1 hdD => ?_
    · obtain ⟨vs, rfl, _, hv⟩ := argsV_g hv
      obtain rfl := argsV_nil hv
      rw [← List.map_drop] at hv2
      exact cloneD_spec w' v63 _ (by simp; omega) m1 hm hv2
    obtain ⟨vo, rfl, hD⟩ := hq1
    have hdD : dis mD m1 := hdD
    simp (maxSteps := 2000000) only [retS, ops_cons, vcOp, ev, look, put_mk, Nat.reduceEqDiff, ↓reduceIte, reduceCtorEq, Nat.zero_add]
    obtain ⟨ov1, e1, mo, mr, hm1, hdm, hO, hb1, _, hmk⟩ := hM.list
    have hbm := uni_r hdm hb1
    rw [← hm1] at hbm
    have hbd := uni_r hdD hbm.1
    refine st_of rfl _ e1 ⟨hbd.1, by simp⟩ ?_
    simp (maxSteps := 2000000) only [ops_cons, vcOp, ev, look, put_mk, put_mk0, Nat.reduceEqDiff, ↓reduceIte, Nat.zero_add, ptr]
    refine st_of rfl _ e1 ⟨upd_self _ _ _, by simp [writeAt, GV.flat]⟩ ?_
    simp (maxSteps := 2000000) only [vc_ret, vc_seq, vc_rg, thenQ_n, kKeep_eq, finQ_r, segs_nil, segs_n, ops_nil, ops_cons, vcOp, ev, look, put_mk, put_mk0, keep_mk, keepL, Value.oneCell', cond_true, ↓reduceIte]
    rw [upd_upd2, uni_upd hbd.2, hm1, uni_upd hbm.2]
    have hdr : dis mD mr := by rw [hm1] at hdD; exact (dis_of_uni_r hdD).2
    have hcn : cutA p.ds t = n := cutA_of hn hj hst
    have hM2 := hmk (ds' := p.ds.drop n) (fr' := t) (red' := p.red) hD hdr
    refine fin_m (uni mD (mr.upd b (logC L L1 t vo p.red e1))) rfl ?_ ⟨fun h => by omega, fun _ => ⟨rfl, fun i1 => ⟨L1, hL1, ?_⟩⟩⟩
    · exact sub_skip (dis_upd hdm hbm.2)
    · simp only [PL.cut, hcn]
      exact hM2.reI i1
  rcases Nat.lt_or_ge n p.ds.length with hlt | hge
  · obtain ⟨a, c, hov⟩ := slr_len hS
    subst hov
    obtain ⟨bo, oo, rfl, _, _, hsp⟩ := SlR.spot hS (by simp; omega)
    have hel := hsp (C := ⟨Tryz.prog, 70, w, m⟩) (ph := []) (m := m1) (KN.mem (by simp)) n (gDone (p.ds.getD n zDone)) (by rw [List.getElem?_map, List.getD_eq_getElem?_getD, List.getElem?_eq_getElem hlt]; rfl)
    simp only [List.length_map] at hs1
    simp (maxSteps := 2000000) only [c_oplog_Log_Cut_L0, vc_seq, vc_rg, segs_n, ops_cons, vcOp, ev, look, put_mk, Nat.reduceEqDiff, ↓reduceIte, reduceCtorEq, Nat.zero_add]
    have hs3 := hs1.2.2.2.1
    refine ld_of _ hs3 rfl ?_
    simp (maxSteps := 2000000) only [vc_exit, vc_ite, thenQ_n, thenQ_e, kKeep_eq, segs_nil, segs_n, segs_g, ops_nil, ops_cons, vcOp, RO.isGh, skip_mk, skipL, ev, look, put_mk, keep_mk, keepL, binV, binC, Value.oneCell', cond_true, cond_false, Nat.reduceEqDiff, ↓reduceIte, reduceCtorEq, Nat.zero_add, Bool.true_and, Bool.not_true, true_and, decide_eq_true_eq, decide_eq_false_iff_not, ↓br_ft, br_t]
    refine ⟨fun _ => ?_, fun h => by omega⟩
    refine ld_of _ hs3 rfl ?_
    simp (maxSteps := 2000000) only [ops_cons, vcOp, ev, look, put_mk, Nat.reduceEqDiff, ↓reduceIte, reduceCtorEq, Nat.add_zero, Int.toNat_natCast]
    refine ⟨⟨by omega, by omega⟩, ?_⟩
    refine ld_of _ (seen_fst (seen_fst (seen_fst hel))) rfl ?_
    simp (maxSteps := 2000000) only [vc_skip, vc_exit, vc_seq, vc_block, vc_rgq, vc_ite, thenQ_n, thenQ_e, kKeep_eq, segs_nil, segs_n, ops_nil, ops_cons, qsegs_n, qops_cons, vcqOp, vcOp, isRd, ev, look, put_mk, keep_mk, keepL, binV, binC, Value.oneCell', cond_true, Nat.reduceEqDiff, ↓reduceIte, reduceCtorEq, Nat.zero_add, Bool.true_and, true_and, decide_eq_true_eq, decide_eq_false_iff_not, ↓br_tt, br_t]
    refine ⟨fun hle => ?_, fun hle => ?_⟩
    · have hs2 := hs1.2.1
      rw [hL1] at hs2
      refine ld_of _ hs2 rfl ?_
      simp (maxSteps := 2000000) only [ptr, qops_cons, vcqOp, vcOp, isRd, ev, look, put_mk, ↓reduceIte, reduceCtorEq, Nat.zero_add, Bool.true_and, true_and, ptr]
      refine ld_of _ hs3 rfl ?_
      simp (maxSteps := 2000000) only [qops_cons, vcqOp, vcOp, isRd, ev, look, put_mk, Nat.reduceEqDiff, ↓reduceIte, reduceCtorEq, Nat.add_zero, Bool.true_and, true_and, Int.toNat_natCast]
      refine ⟨⟨by omega, by omega⟩, ?_⟩
      refine ld_of _ (seen_fst hel) (gOp_fits _) ?_
      simp (maxSteps := 2000000) only [segs_n, ops_cons, qsegs_nil, qops_nil, vcOp, put_mk]
      obtain ⟨d, hd⟩ : ∃ d, p.ds.getD n zDone = d := ⟨_, rfl⟩
      have hdm : d ∈ p.ds := hd ▸ getD_in hlt zDone
      rw [hd] at hle ⊢
      have hop := hg.ops d hdm
      obtain ⟨mB1, mr1, hm1, hdm1, hB1, hback⟩ := hM.base
      have hok : (ideal p.B ((p.ds.take n).map (·.op))).ok q := by
        have := ideal_ok (l := (p.ds.take n).map (·.op)) hg.bok fun op h => by
          obtain ⟨x, hx, rfl⟩ := List.mem_map.1 h
          exact hg.ops x (List.mem_of_mem_take hx)
        refine this.up ?_
        have := hg.many
        simp only [List.length_map, List.length_take]
        omega
      refine call_with mB1 mr1 (dOk_spec rfl) rfl hm1 hdm1 (Q := fun rs m' => (∃ a c, rs = [a, c]) ∧ ∃ L2, L2 .t = Lb .t ∧ TM m' L2 ((ideal p.B ((p.ds.take n).map (·.op))).step d.op)) (fun w' vs hv _ _ => ?_) fun rs mB' _ hq1 hdB => ?_
      · obtain ⟨vs, rfl, _, hv⟩ := argsV_g hv
        obtain ⟨vs, rfl, _, hv⟩ := argsV_g hv
        obtain rfl := argsV_nil hv
        have := (Do_spec w' mB1 L1 (ideal p.B ((p.ds.take n).map (·.op))) d.op hop.2 (ok_fits hok (by omega)) hB1).mono fun rs m' h => (show (∃ a c, rs = [a, c]) ∧ ∃ L2, L2 .t = L1 .t ∧ TM m' L2 ((ideal p.B ((p.ds.take n).map (·.op))).step d.op) from by
          cases hmay : mayA (ideal p.B ((p.ds.take n).map (·.op))) d.op with
          | false => exact ⟨⟨_, _, (h.1 hmay).1⟩, L1, rfl, by rw [step_no hmay]; exact (h.1 hmay).2⟩
          | true =>
            obtain ⟨L2, e1, e2, e3, e4⟩ := h.2 hmay
            exact ⟨⟨_, _, e3⟩, L2, e1, by rw [step_yes hmay]; exact e4⟩)
        rw [hL1] at this
        exact this
      obtain ⟨⟨ra, rc, rfl⟩, L2, h21, hT2⟩ := hq1
      simp (maxSteps := 2000000) only [retS, vc_rg, thenQ_n, blockQ_n, kKeep_eq, segs_nil, segs_n, ops_nil, ops_cons, vcOp, ev, look, put_mk, keep_mk, keepL, binV, binC, Value.oneCell', cond_true, Nat.reduceEqDiff, ↓reduceIte, reduceCtorEq, Bool.true_and, true_and]
      subst hQ; simp only [loopQ_n]; refine ⟨(n + 1, L2, uni mB' mr1), ?_, ?_, ge_of ?_ ?_ rfl rfl rfl⟩
      · refine ⟨by simp only; omega, fun j hj' => ?_, h21, ?_⟩
        · rcases Nat.lt_succ_iff_lt_or_eq.1 hj' with h4 | rfl
          · exact hj j h4
          · rw [hd]; exact hle
        · simp only
          have := hback (h21.trans hL1.symm) hT2 hdB
          rw [take_at hlt zDone, hd, List.map_append, List.map_cons, List.map_nil, ideal_snoc]
          exact this
      · simp only; omega
      · simp only [frIn, look, Nat.reduceEqDiff, ↓reduceIte, reduceCtorEq, Bool.and_true, Bool.true_and, true_and, and_true]
        rw [wrap_n (by omega)]
        try simp
      · simp [pvIn, look]
    · exact stop (fun _ => hle) _ (ge_of (by simp [frIn, look]) (by simp [pvIn, look]) rfl rfl rfl)
  · obtain ⟨a, c, hov⟩ := slr_len hS
    subst hov
    simp only [List.length_map] at hs1
    simp (maxSteps := 2000000) only [c_oplog_Log_Cut_L0, vc_seq, vc_rg, segs_n, ops_cons, vcOp, ev, look, put_mk, Nat.reduceEqDiff, ↓reduceIte, reduceCtorEq, Nat.zero_add]
    refine ld_of _ hs1.2.2.2.1 rfl ?_
    simp (maxSteps := 2000000) only [vc_exit, vc_ite, thenQ_n, thenQ_e, kKeep_eq, segs_nil, segs_n, segs_g, ops_nil, ops_cons, vcOp, RO.isGh, skip_mk, skipL, ev, look, put_mk, keep_mk, keepL, binV, binC, Value.oneCell', cond_true, cond_false, Nat.reduceEqDiff, ↓reduceIte, reduceCtorEq, Nat.zero_add, Bool.true_and, Bool.not_true, true_and, decide_eq_true_eq, decide_eq_false_iff_not, ↓br_ft, br_t]
    refine ⟨fun h => by omega, fun _ => ?_⟩
    exact stop (fun h => by omega) _ (ge_of (by simp [frIn, look]) (by simp [pvIn, look]) rfl rfl rfl)
end Go.Proofs.YtmjiojflncffeaaGreat.Vc

/- A log that operations come to: in steps; what the law asks of every log first. -/
set_option linter.unusedVariables false
set_option linter.unusedSimpArgs false
set_option maxRecDepth 100000
namespace Go.Proofs.YtmjiojflncffeaaGreat.Vc
open Go Go.Proofs Go.Proofs.YtmjiojflncffeaaGreat Go.ChangeShapes Go.WideShapes Go.ChangeAt

/-- How many may have been done, where so many are there. -/
def tri (n : Nat) : Nat := n * (n + 1) / 2
theorem tri_step (n c : Nat) (hc : 1 ≤ c) : tri n + n + c ≤ tri (n + c) := by
  unfold tri
  obtain ⟨d, rfl⟩ : ∃ d, c = d + 1 := ⟨c - 1, by omega⟩
  have e : (n + (d + 1)) * (n + (d + 1) + 1) = n * (n + 1) + 2 * (n + (d + 1)) + (2 * (n * d) + d * (d + 1)) := by
    simp only [Nat.mul_add, Nat.add_mul, Nat.mul_one, Nat.one_mul]
    rw [Nat.mul_comm d n]
    omega
  have h1 : (n + (d + 1)) * (n + (d + 1) + 1) / 2 ≥ (n * (n + 1) + 2 * (n + (d + 1))) / 2 := Nat.div_le_div_right (by omega)
  have h2 : (n * (n + 1) + 2 * (n + (d + 1))) / 2 = n * (n + 1) / 2 + (n + (d + 1)) := by omega
  omega
theorem tri_le {n : Nat} (h : n ≤ 1200000) : tri n ≤ 720000600000 := by
  unfold tri
  have : n * (n + 1) ≤ 1200000 * 1200001 := Nat.mul_le_mul h (by omega)
  omega
theorem PL.good.up {p : PL} {mk : Value} {kb q q' : Nat} (h : p.good mk kb q) (hq : q ≤ q') : p.good mk kb q' := ⟨h.fl.up hq, h.bok, h.bgood, by have := h.many; omega, h.ris, h.ops⟩

theorem ops_len {p p' : PL} {ops : List Op} {n : Int} (h : Added p ops p' n) : p'.ds.length = p.ds.length + ops.length := by
  have := h.perm.length_eq
  simpa using this
/-- A step: what Add answers, the measure with it. -/
def StepQ (b : Nat) (L Lb : Lay) (p : PL) (kb : Nat) (ops : List Op) (rs : List GV) (m' : PH) : Prop :=
  (lookE p.ds p.fr [] ops ≠ 0 → rs = [.s (.int .i64 0), .s (.int .i64 (lookE p.ds p.fr [] ops))] ∧ LogM m' b L Lb p) ∧
  (lookE p.ds p.fr [] ops = 0 → ∃ L' p' n, L' .t = L .t ∧ L' .mk = L .mk ∧ rs = [.s (.int .i64 n), .s (.int .i64 0)] ∧ LogM m' b L' Lb p' ∧ p'.good (ptr (L .mk)) kb (tri p'.ds.length) ∧ Added p ops p' n)
theorem step_spec (w : World) (m : PH) (b : Nat) (L Lb : Lay) (p : PL) (hL : LogM m b L Lb p) {kb : Nat} (hg : p.good (ptr (L .mk)) kb (tri p.ds.length)) (v : Value) (ops : List Op) (ho : ∀ op ∈ ops, OpIn op ∧ OpOk op) (h1 : 1 ≤ ops.length) (hS : SlR (but w m) v 8 (ops.map gOp)) (hfew : p.ds.length ≤ 1048576) (hsum : p.ds.length + ops.length ≤ 1200000) (hon : ops.length ≤ 1048576) :
    Spec Tryz.prog f_oplog_Log_Add [ptr b, v] m w (StepQ b L Lb p kb ops) := by
  have ht := tri_step p.ds.length ops.length h1
  have ht2 := tri_le hsum
  refine (add_spec w m b L Lb p hL hg v ops ⟨hon, ho⟩ hS (by omega) hfew).mono fun rs m' h => ⟨h.1, fun h0 => ?_⟩
  obtain ⟨L', p', n, e1, e2, e3, e4, e5, e6⟩ := h.2 h0
  exact ⟨L', p', n, e1, e2, e3, e4, e5.up (by rw [ops_len e6]; exact ht), e6⟩

/-- What is wrong with one operation. -/
theorem lookE_one (ds : List Done) (fr : Int) (op : Op) : lookE ds fr [] [op] = if checkE op ≠ 0 then checkE op else if op.stamp.time ≤ fr then 130 else if hasA ds op.k = true then 5 else 0 := by
  simp only [lookE, List.not_mem_nil, or_false]

def liveOp : Op := ⟨⟨1, 0⟩, 1, 24, 1, ⟨#[97]⟩, ⟨#[]⟩, ⟨#[]⟩⟩
theorem liveOp_in : OpIn liveOp ∧ OpOk liveOp := ⟨⟨by decide, by decide, by decide⟩, by decide, by decide⟩
theorem liveOp_check : checkE liveOp = 0 := by decide +kernel
theorem liveOp_may : mayA T0 liveOp = true := by decide +kernel
theorem liveOp_told : (nodesTold (T0.step liveOp)).length = 1 := by
  rw [step_yes liveOp_may]
  have hp : (nodesK (T0.does liveOp)).Perm [1, 2, 24] := List.mergeSort_perm _ _
  have hl := ((hp.filterMap fun n => ((T0.does liveOp).get n).map fun x => toldOf n x).filter TN.shown).length_eq
  show ((List.filterMap _ _).filter _).length = 1
  rw [hl]
  have h1 : (T0.does liveOp).get 1 = some ⟨0, ⟨#[]⟩, [], [24]⟩ := rfl
  have h2 : (T0.does liveOp).get 2 = some ⟨0, ⟨#[]⟩, [], []⟩ := rfl
  have h3 : (T0.does liveOp).get 24 = some ⟨1, ⟨#[97]⟩, [], []⟩ := rfl
  simp [h1, h2, h3, List.filterMap_cons, toldOf, TN.shown, attrsOf, attrKeys, sortB, topB, List.filter_cons]
/-- One operation, put to a log. -/
theorem one_split {w' : World} {m1 : PH} {b : Nat} {L Lb : Lay} {p : PL} (hL : LogM m1 b L Lb p) {kb : Nat} (hg : p.good (ptr (L .mk)) kb (tri p.ds.length)) (hfew : p.ds.length ≤ 1048576) {v' : Value} {op : Op} (ho : OpIn op ∧ OpOk op) (hs : SlR (but w' m1) v' 8 [gOp op]) :
    Spec Tryz.prog f_oplog_Log_Add [ptr b, v'] m1 w' (StepQ b L Lb p kb [op]) :=
  step_spec w' m1 b L Lb p hL hg v' [op] (by simpa using ho) (by simp) hs hfew (by simp; omega) (by simp)
theorem live13_spec (w : World) : Spec Tryz.prog f_law13_live [] PH.no w fun rs _ => rs = [.s (.bool true)] := by
  refine spec_val k_law13_live (Qf := fun rs => rs = [.s (.bool true)]) [] (by simp) (by simp [AV.ok]) ?_
  simp (maxSteps := 2000000) only [c_law13_live, vc_seq, vc_rg, thenQ_n, kKeep_eq, segs_nil, segs_n, ops_nil, ops_cons, vcOp, ev, put_mk, keep_mk, keepL, Value.oneCell', cond_true, initF, initP, gStamp_zero, gOp_zero]
  refine call_ownm rfl rfl (Q := fun rs m' => ∃ b L Lb, rs = [.s (ptr b)] ∧ LogM m' b L Lb PL.new) (fun w' vs hv hw _ _ => ?_) fun rs m0 _ hq _ => ?_
  · obtain rfl := argsV_nil hv
    exact logNew_spec w'
  obtain ⟨b, L, Lb, rfl, hL⟩ := hq
  simp (maxSteps := 2000000) only [retS, uni_no_r, vc_seq, vc_rg, thenQ_n, kKeep_eq, segs_nil, segs_n, ops_nil, ops_cons, vcOp, ev, look, put_mk, keep_mk, keepL, Value.oneCell', cond_true, ↓reduceIte, ptr]
  refine eq_of (eqLog b) ?_
  simp (maxSteps := 2000000) only [vc_skip, vc_seq, vc_rg, vc_ite, thenQ_n, kKeep_eq, segs_nil, segs_n, ops_nil, ops_cons, vcOp, ev, evL, gvL, look, updL, put_mk, keep_mk, keepL, GV.getT, GV.same, Value.oneCell', cond_true, Nat.reduceEqDiff, ↓reduceIte, Nat.zero_add, Bool.and_true, Bool.true_and, true_and, and_true, List.map_cons, List.map_nil, Option.map_some, szAll, List.length_cons, List.length_nil, ↓br_ft, Bool.bne_false, GV.bldT, GV.bldC, same_int, getT_nil, gStamp_same, gStamp_get0, gStamp_set0, gOp_sz, gOp_get0, gOp_set0, gOp_get1, gOp_set1, gOp_get2, gOp_set2, gOp_get3, gOp_set3, gOp_get4, gOp_set4]
  refine ⟨rfl, ⟨rfl, rfl, rfl, rfl, rfl⟩, ?_⟩
  refine call_split m0 PH.no rfl rfl (uni_no_r _).symm (dis_no_r _) (Q := StepQ b L Lb PL.new 0 [liveOp]) (fun w' vs hv _ _ _ => ?_) fun rs m1 _ hq _ => ?_
  · obtain ⟨vs, rfl, _, hv⟩ := argsB_g hv
    obtain ⟨v', vs, rfl, hs, hv⟩ := argsB_row (z := 8) (xs := [gOp liveOp]) rfl rfl hv
    obtain rfl := argsB_nil hv
    exact one_split hL (PL.new_good _) (by decide) liveOp_in hs
  have hlk : lookE PL.new.ds PL.new.fr [] [liveOp] = 0 := by rw [lookE_one, liveOp_check]; decide
  obtain ⟨L', p', n, hL1, hL2, rfl, hM, hg, hA⟩ := hq.2 hlk
  simp (maxSteps := 2000000) only [retS, List.getElem?_cons_succ, List.getElem?_cons_zero, uni_no_r, vc_ret, vc_seq, vc_rg, thenQ_n, kKeep_eq, segs_nil, segs_n, segs_g, ops_nil, ops_cons, vcOp, RO.isGh, skip_mk, skipL, ev, look, put_mk, keep_mk, keepL, binV, binC, Value.oneCell', cond_true, cond_false, Nat.reduceEqDiff, ↓reduceIte, Bool.true_and, Bool.not_true, BEq.rfl, true_and, finW_r, resL, resOne, ↓br_tt, ↓br_ft, br_t]
  have hlen : p'.ds.length = 1 := ops_len hA
  obtain ⟨d, hd⟩ : ∃ d, p'.ds = [d] := List.length_eq_one_iff.1 hlen
  have hop : d.op = liveOp := by
    have := hA.perm
    rw [hd] at this
    have := this.mem_iff (a := d.op)
    simpa [PL.new] using this
  have htk : d.taken = true := by
    have hh := hg.fl.hist
    rw [hd] at hh
    have := LHist.taken (ds := []) hh
    rw [hop, hA.B] at this
    rw [this]
    exact liveOp_may
  have hn : n = 1 := by
    rw [hA.n, hd]
    have : d.k = liveOp.k := by show d.op.k = _; rw [hop]
    simp [List.filter_cons, htk, this]
  subst hn
  simp (maxSteps := 2000000) only [Bool.and_true, BEq.rfl, and_true, true_imp_iff, false_imp_iff, Bool.true_eq_false]
  refine call_ism _ [.s (.int .i64 1)] rfl rfl (fun w' vs hv _ _ hm => ?_) ?_
  · obtain ⟨vs, rfl, _, hv⟩ := argsV_g hv
    obtain rfl := argsV_nil hv
    have := logLen_spec hm hM
    rw [hlen] at this
    exact this
  simp (maxSteps := 2000000) only [retS, segs_n, segs_g, ops_nil, ops_cons, vcOp, ev, look, put_mk, binV, binC, Value.oneCell', cond_true, Nat.reduceEqDiff, ↓reduceIte, Bool.true_and, BEq.rfl, true_and, ↓br_tt]
  have hfr : p'.fr = 0 := hA.fr
  refine call_all rfl rfl (Q := fun rs m' => rs = [.s (.int .i64 0)] ∧ ∀ i1, ∃ Lb', Lb' .t = Lb .t ∧ LogM m' b L' Lb' (p'.cut 1 i1)) (fun w' vs hv _ _ => ?_) fun rs m2 _ hq2 => ?_
  · obtain ⟨vs, rfl, _, hv⟩ := argsV_g hv
    obtain ⟨vs, rfl, _, hv⟩ := argsV_g hv
    obtain rfl := argsV_nil hv
    exact (cut_spec w' m1 b L' Lb p' hM hg (by rw [hlen]; decide) (by omega) 1).mono fun rs m' h => h.2 (by rw [hfr]; decide)
  obtain ⟨rfl, hcut⟩ := hq2
  obtain ⟨i1, hgc⟩ := hg.cut 1
  obtain ⟨Lb', _, hMc⟩ := hcut i1
  have hca : cutA p'.ds 1 = 1 := by
    rw [hd]
    have : d.op.stamp.time ≤ 1 := by rw [hop]; decide
    simp [cutA, List.takeWhile_cons, this]
  have hds : (p'.cut 1 i1).ds = [] := by
    show p'.ds.drop (cutA p'.ds 1) = []
    rw [hca, hd]; rfl
  have hB : (p'.cut 1 i1).B = T0.step liveOp := by
    show ideal p'.B ((p'.ds.take (cutA p'.ds 1)).map (·.op)) = _
    rw [hca, hd, hA.B]
    show ideal T0 [d.op] = _
    rw [hop]; rfl
  simp (maxSteps := 2000000) only [retS, segs_n, segs_g, ops_nil, ops_cons, vcOp, ev, look, put_mk, binV, binC, Value.oneCell', cond_true, Nat.reduceEqDiff, ↓reduceIte, Bool.true_and, BEq.rfl, true_and, ↓br_tt]
  refine call_ism _ [.s (.int .i64 0)] rfl rfl (fun w' vs hv _ _ hm => ?_) ?_
  · obtain ⟨vs, rfl, _, hv⟩ := argsV_g hv
    obtain rfl := argsV_nil hv
    have := logLen_spec hm hMc
    rw [hds] at this
    exact this
  simp (maxSteps := 2000000) only [retS, segs_n, segs_g, ops_nil, ops_cons, vcOp, ev, look, put_mk, binV, binC, Value.oneCell', cond_true, Nat.reduceEqDiff, ↓reduceIte, Bool.true_and, BEq.rfl, true_and, ↓br_tt]
  refine call_frzm rfl rfl (Q := fun rs m' => ∃ v ts, rs = [.s v] ∧ SlR m' v 4 (ts.map gTreeNode) ∧ TsOk m' ts (nodesTold (p'.cut 1 i1).B)) (fun w' vs hv _ _ hm => ?_) fun rs m3 _ hq3 => ?_
  · obtain ⟨vs, rfl, _, hv⟩ := argsV_g hv
    obtain rfl := argsV_nil hv
    exact logBase_spec hm hMc hgc (by rw [hlen]; decide)
  obtain ⟨v, ts, rfl, hs, hts⟩ := hq3
  rw [hB] at hts
  have htl := hts.len
  rw [liveOp_told] at htl
  obtain ⟨a, c, rfl⟩ := slr_len hs
  simp (maxSteps := 2000000) only [retS, List.length_map, htl, vc_ret, thenQ_n, kKeep_eq, segs_nil, segs_n, ops_nil, ops_cons, vcOp, ev, look, put_mk, keep_mk, keepL, binV, binC, Value.oneCell', cond_true, Nat.reduceEqDiff, ↓reduceIte, Bool.true_and, true_and, finW_r, resL, resOne, ↓br_tt, List.length_map]
  rfl
/-- Operations that came in: what is asked of them. -/
theorem open_OpsIn {H : Type} {enc : TypeId × Value → H} {W : World} {base n : Nat} {v : Value} (h : RdB enc Tryz.prog W 22 v n) (hv : Value.okWide Tryz.prog W .any base 22 v) : ∃ l : List Op, SlR W.ph v 8 (l.map gOp) ∧ l.length ≤ n ∧ ∀ op ∈ l, OpIn op ∧ OpOk op := by
  have hd := rdv_slice (e := 26) (by kernel_rfl) h.v hv
  obtain ⟨l, h1, _, h3⟩ := rd_slice (t := 22) (e := 26) (n0 := 9) (ks := kOp) (g := fun q => gOp (Op.ofRaw q 0)) (by kernel_rfl) (by kernel_rfl) (by kernel_rfl) (by rw [cells_Op]; omega) (fun q => gOp_flat q 0) (fun q _ => gOp_ok _) (fun q => by rw [gOp_sz, cells_Op]) hd
  rw [cells_Op] at h1
  refine ⟨l.map fun q => Op.ofRaw q 0, by rw [List.map_map]; exact h1, ?_, ?_⟩
  · obtain ⟨fuel, x, hx, _, hn⟩ := h
    obtain ⟨_, h1 | ⟨a, c, h1, _⟩⟩ := h1
    · have : l = [] := by simpa using h1.2
      simp [this]
    · subst h1
      have hx' : DataW.trod enc Tryz.prog W 0 (fun _ => true) true fuel 22 [.slice (some a) (l.map fun q => gOp (Op.ofRaw q 0)).length c] = some x := hx
      rcases Go.Deep.open_slice (e := 26) (by kernel_rfl) hx' with ⟨hv', rfl⟩ | ⟨a', len, cap, m, n', D, Pl, hv', _, hlc, _, hm, rfl, hel⟩
      · simp at hv'
      · simp only [List.cons.injEq, Value.slice.injEq, and_true, List.length_map] at hv'
        have h5 := bulk_len ((List.range len).map D)
        rw [List.length_map, List.length_range] at h5
        simp only [Rows.uptoBulk] at hn
        rw [List.length_map]
        omega
  · intro op hop
    obtain ⟨q, hq, rfl⟩ := List.mem_map.1 hop
    have hf := h3 q hq
    have i3 := hf.int (j := 3) (k := .i64) rfl
    have i4 := hf.int (j := 4) (k := .i64) rfl
    have s5 := hf.str (j := 5) rfl
    have em : IntKind.i64.max = 9223372036854775807 := by decide
    refine ⟨⟨?_, ?_, Nat.le_trans s5 (by decide)⟩, ?_, Nat.le_trans s5 (by decide)⟩
    · show q.x 3 < _
      have := i3.2; rw [em] at this; omega
    · show q.x 4 < _
      have := i4.2; rw [em] at this; omega
    · show (decide (IntKind.i64.min ≤ q.x 3) && decide (q.x 3 ≤ IntKind.i64.max)) = true
      rw [Bool.and_eq_true]
      exact ⟨decide_eq_true i3.1, decide_eq_true i3.2⟩
/-- One operation that came in. -/
theorem open_OpIn {H : Type} {enc : TypeId × Value → H} {W : World} {base n : Nat} {v : Value} (h : RdB enc Tryz.prog W 26 v n) (hv : Value.okWide Tryz.prog W .any base 26 v) : ∃ op : Op, v = (gOp op).val ∧ OpIn op ∧ OpOk op := by
  obtain ⟨q, rfl, hf⟩ := rdv_agg (n0 := 9) (ks := kOp) (g := fun q => gOp (Op.ofRaw q 0)) (by kernel_rfl) (by kernel_rfl) (fun q => gOp_flat q 0) (fun q v e => by cases e) h.v hv
  have i3 := hf.int (j := 3) (k := .i64) rfl
  have i4 := hf.int (j := 4) (k := .i64) rfl
  have s5 := hf.str (j := 5) rfl
  have em : IntKind.i64.max = 9223372036854775807 := by decide
  refine ⟨_, rfl, ⟨?_, ?_, Nat.le_trans s5 (by decide)⟩, ?_, Nat.le_trans s5 (by decide)⟩
  · show q.x 3 < _
    have := i3.2; rw [em] at this; omega
  · show q.x 4 < _
    have := i4.2; rw [em] at this; omega
  · show (decide (IntKind.i64.min ≤ q.x 3) && decide (q.x 3 ≤ IntKind.i64.max)) = true
    rw [Bool.and_eq_true]
    exact ⟨decide_eq_true i3.1, decide_eq_true i3.2⟩
end Go.Proofs.YtmjiojflncffeaaGreat.Vc

/- The code of some functions of the program, its types resolved: printed by a program of this claim. -/
set_option linter.unusedVariables false
set_option maxRecDepth 100000
namespace Go.Proofs.YtmjiojflncffeaaGreat.Vc
open Go Go.Proofs

abbrev f_law13_OplogRedoes : Nat := 3
def c_law13_OplogRedoes_L0 : Cd :=
 (.seq (.rg [⟨none, [(some 24, .bin .lss (.t 23) (.t 22))]⟩] [3, 5, 6, 21, 22, 23, 24])
 (.seq (.ite (.t 24)
 .skip
 (.exit 0))
 (.seq (.block 1 (.seq (.rg [⟨none, [(some 25, .idxS (.t 21) (.t 23) 8), (some 26, .ld (.t 25) 8 true), (some 8, .new 26 (.c (.c (.s (.int .i64 0)) (.c (.s (.int .i64 0)) .u)) (.c (.s (.int .i64 0)) (.c (.s (.int .i64 0)) (.c (.s (.int .i64 0)) (.c (.s (.string ⟨#[]⟩)) (.c (.s (.string ⟨#[]⟩)) (.c (.s (.string ⟨#[]⟩)) .u)))))))), (none, .st (.t 8) (.t 26) 8)]⟩] [3, 5, 6, 8, 21, 22, 23])
 (.seq (.rg [⟨none, [(some 28, .mv (.t 5)), (some 29, .ld (.t 8) 8 true), (some 30, .bldS 26 8 (.c (.c (.s (.int .i64 0)) (.c (.s (.int .i64 0)) .u)) (.c (.s (.int .i64 0)) (.c (.s (.int .i64 0)) (.c (.s (.int .i64 0)) (.c (.s (.string ⟨#[]⟩)) (.c (.s (.string ⟨#[]⟩)) (.c (.s (.string ⟨#[]⟩)) .u))))))) [(.t 29)]), (some 31, .call 14 [(.t 28), (.t 30)]), (some 27, .mv (.t 31)), (some 32, .ext (.t 27) 0), (some 33, .ext (.t 27) 1), (some 9, .mv (.t 32)), (some 10, .mv (.t 33))]⟩] [3, 5, 6, 8, 10, 21, 22, 23])
 (.seq (.rg [⟨none, [(some 34, .mv (.t 10)), (some 35, .bin .eql (.t 34) (.c (.int .i64 0))), (some 36, .mv (.t 35))]⟩, ⟨some (36, true), [(some 37, .fldA (.t 8) 0 0), (some 38, .ld (.t 37) 2 true), (some 39, .ld (.t 6) 2 true), (some 40, .call 15 [(.t 38), (.t 39)]), (some 41, .bin .gtr (.t 40) (.c (.int .i64 0)))]⟩, ⟨none, [(some 42, .pick (.t 36) (.t 41) (.c (.bool false)))]⟩] [3, 5, 6, 8, 21, 22, 23, 42])
 (.ite (.t 42)
 (.rg [⟨none, [(some 43, .fldA (.t 8) 0 0), (some 44, .ld (.t 43) 2 true), (none, .st (.t 6) (.t 44) 2)]⟩] [3, 5, 6, 21, 22, 23])
 .skip)))))
 (.rg [⟨none, [(some 45, .bin .add (.t 23) (.c (.int .i64 1))), (some 23, .mv (.t 45))]⟩] [3, 5, 6, 21, 22, 23]))))
def c_law13_OplogRedoes : Cd :=
 (.seq (.rg [⟨none, [(some 3, .box 26 (.t 1)), (some 4, .mv (.c (.bool false)))]⟩] [0, 3])
 (.seq (.rg [⟨none, [(some 13, .call 12 []), (some 5, .mv (.t 13))]⟩] [0, 3, 5])
 (.seq (.seq (.rg [⟨none, [(some 14, .mv (.t 5)), (some 15, .eqA false 27 (.t 14) (.c (.pointer none))), (some 16, .mv (.t 15))]⟩, ⟨some (16, false), [(some 17, .call 13 []), (some 18, .un .not (.t 17))]⟩, ⟨none, [(some 19, .pick (.t 16) (.c (.bool true)) (.t 18))]⟩] [0, 3, 5, 19])
 (.ite (.t 19)
 (.seq (.rg [⟨none, [(some 4, .mv (.c (.bool false)))]⟩] [4])
 .ret)
 .skip))
 (.seq (.rg [⟨none, [(some 20, .bld (.c (.s (.int .i64 0)) (.c (.s (.int .i64 0)) .u)) []), (some 6, .new 24 (.c (.s (.int .i64 0)) (.c (.s (.int .i64 0)) .u))), (none, .st (.t 6) (.t 20) 2)]⟩] [0, 3, 5, 6])
 (.seq (.seq (.rg [⟨none, [(some 21, .mv (.t 0)), (some 22, .len (.t 21)), (some 23, .mv (.c (.int .i64 0)))]⟩] [3, 5, 6, 21, 22, 23])
 (.block 0 (.loop c_law13_OplogRedoes_L0)))
 (.seq (.seq (.rg [⟨none, [(some 46, .fldA (.t 3) 0 0), (some 47, .ld (.t 46) 2 true), (some 48, .ld (.t 6) 2 true), (some 49, .call 15 [(.t 47), (.t 48)]), (some 50, .bin .leq (.t 49) (.c (.int .i64 0)))]⟩] [3, 5, 50])
 (.ite (.t 50)
 (.seq (.rg [⟨none, [(some 4, .mv (.c (.bool true)))]⟩] [4])
 .ret)
 .skip))
 (.seq (.rg [⟨none, [(some 52, .mv (.t 5)), (some 53, .ld (.t 3) 8 true), (some 54, .bldS 26 8 (.c (.c (.s (.int .i64 0)) (.c (.s (.int .i64 0)) .u)) (.c (.s (.int .i64 0)) (.c (.s (.int .i64 0)) (.c (.s (.int .i64 0)) (.c (.s (.string ⟨#[]⟩)) (.c (.s (.string ⟨#[]⟩)) (.c (.s (.string ⟨#[]⟩)) .u))))))) [(.t 53)]), (some 55, .call 14 [(.t 52), (.t 54)]), (some 51, .mv (.t 55)), (some 56, .ext (.t 51) 0), (some 57, .ext (.t 51) 1), (some 11, .mv (.t 56)), (some 12, .mv (.t 57))]⟩] [3, 5, 12])
 (.seq (.rg [⟨none, [(some 58, .mv (.t 12)), (some 59, .ld (.t 3) 8 true), (some 60, .call 16 [(.t 59)]), (some 61, .bin .eql (.t 58) (.t 60)), (some 62, .mv (.t 61))]⟩, ⟨some (62, true), [(some 63, .mv (.t 12)), (some 64, .bin .neq (.t 63) (.c (.int .i64 0))), (some 65, .mv (.t 64))]⟩, ⟨some (65, false), [(some 66, .mv (.t 5)), (some 67, .call 17 [(.t 66)]), (some 68, .bin .eql (.t 67) (.c (.int .i64 0)))]⟩, ⟨some (62, true), [(some 69, .pick (.t 65) (.c (.bool true)) (.t 68))]⟩, ⟨none, [(some 70, .pick (.t 62) (.t 69) (.c (.bool false))), (some 4, .mv (.t 70))]⟩] [4])
 .ret))))))))
theorem k_law13_OplogRedoes : Ok Tryz.prog 3 c_law13_OplogRedoes 71 [] [.tmp 4] := Ok.mk' Tryz.func3 (by kernel_rfl) (by kernel_rfl) (by kernel_rfl)

abbrev f_law13_OplogWould : Nat := 4
def c_law13_OplogWould_L0 : Cd :=
 (.seq (.rg [⟨none, [(some 25, .bin .lss (.t 24) (.t 23))]⟩] [3, 5, 6, 22, 23, 24, 25])
 (.seq (.ite (.t 25)
 .skip
 (.exit 0))
 (.seq (.block 1 (.seq (.rg [⟨none, [(some 26, .idxS (.t 22) (.t 24) 8), (some 27, .ld (.t 26) 8 true), (some 8, .new 26 (.c (.c (.s (.int .i64 0)) (.c (.s (.int .i64 0)) .u)) (.c (.s (.int .i64 0)) (.c (.s (.int .i64 0)) (.c (.s (.int .i64 0)) (.c (.s (.string ⟨#[]⟩)) (.c (.s (.string ⟨#[]⟩)) (.c (.s (.string ⟨#[]⟩)) .u)))))))), (none, .st (.t 8) (.t 27) 8)]⟩] [3, 5, 6, 8, 22, 23, 24])
 (.seq (.rg [⟨none, [(some 29, .mv (.t 5)), (some 30, .ld (.t 8) 8 true), (some 31, .bldS 26 8 (.c (.c (.s (.int .i64 0)) (.c (.s (.int .i64 0)) .u)) (.c (.s (.int .i64 0)) (.c (.s (.int .i64 0)) (.c (.s (.int .i64 0)) (.c (.s (.string ⟨#[]⟩)) (.c (.s (.string ⟨#[]⟩)) (.c (.s (.string ⟨#[]⟩)) .u))))))) [(.t 30)]), (some 32, .call 14 [(.t 29), (.t 31)]), (some 28, .mv (.t 32)), (some 33, .ext (.t 28) 0), (some 34, .ext (.t 28) 1), (some 9, .mv (.t 33)), (some 10, .mv (.t 34))]⟩] [3, 5, 6, 8, 10, 22, 23, 24])
 (.seq (.rg [⟨none, [(some 35, .mv (.t 10)), (some 36, .bin .eql (.t 35) (.c (.int .i64 0))), (some 37, .mv (.t 36))]⟩, ⟨some (37, true), [(some 38, .fldA (.t 8) 0 0), (some 39, .ld (.t 38) 2 true), (some 40, .ld (.t 6) 2 true), (some 41, .call 15 [(.t 39), (.t 40)]), (some 42, .bin .gtr (.t 41) (.c (.int .i64 0)))]⟩, ⟨none, [(some 43, .pick (.t 37) (.t 42) (.c (.bool false)))]⟩] [3, 5, 6, 8, 22, 23, 24, 43])
 (.ite (.t 43)
 (.rg [⟨none, [(some 44, .fldA (.t 8) 0 0), (some 45, .ld (.t 44) 2 true), (none, .st (.t 6) (.t 45) 2)]⟩] [3, 5, 6, 22, 23, 24])
 .skip)))))
 (.rg [⟨none, [(some 46, .bin .add (.t 24) (.c (.int .i64 1))), (some 24, .mv (.t 46))]⟩] [3, 5, 6, 22, 23, 24]))))
def c_law13_OplogWould : Cd :=
 (.seq (.rg [⟨none, [(some 3, .box 26 (.t 1)), (some 4, .mv (.c (.bool false)))]⟩] [0, 3])
 (.seq (.rg [⟨none, [(some 14, .call 12 []), (some 5, .mv (.t 14))]⟩] [0, 3, 5])
 (.seq (.seq (.rg [⟨none, [(some 15, .mv (.t 5)), (some 16, .eqA false 27 (.t 15) (.c (.pointer none))), (some 17, .mv (.t 16))]⟩, ⟨some (17, false), [(some 18, .call 13 []), (some 19, .un .not (.t 18))]⟩, ⟨none, [(some 20, .pick (.t 17) (.c (.bool true)) (.t 19))]⟩] [0, 3, 5, 20])
 (.ite (.t 20)
 (.seq (.rg [⟨none, [(some 4, .mv (.c (.bool false)))]⟩] [4])
 .ret)
 .skip))
 (.seq (.rg [⟨none, [(some 21, .bld (.c (.s (.int .i64 0)) (.c (.s (.int .i64 0)) .u)) []), (some 6, .new 24 (.c (.s (.int .i64 0)) (.c (.s (.int .i64 0)) .u))), (none, .st (.t 6) (.t 21) 2)]⟩] [0, 3, 5, 6])
 (.seq (.seq (.rg [⟨none, [(some 22, .mv (.t 0)), (some 23, .len (.t 22)), (some 24, .mv (.c (.int .i64 0)))]⟩] [3, 5, 6, 22, 23, 24])
 (.block 0 (.loop c_law13_OplogWould_L0)))
 (.seq (.rg [⟨none, [(some 48, .mv (.t 5)), (some 49, .ld (.t 3) 8 true), (some 50, .call 18 [(.t 48), (.t 49)]), (some 47, .mv (.t 50)), (some 51, .ext (.t 47) 0), (some 52, .ext (.t 47) 1), (some 11, .mv (.t 51)), (some 12, .mv (.t 52))]⟩] [3, 5, 6, 11, 12])
 (.seq (.seq (.rg [⟨none, [(some 53, .mv (.t 12)), (some 54, .bin .neq (.t 53) (.c (.int .i64 0))), (some 55, .mv (.t 54))]⟩, ⟨some (55, false), [(some 56, .fldA (.t 3) 0 0), (some 57, .ld (.t 56) 2 true), (some 58, .ld (.t 6) 2 true), (some 59, .call 15 [(.t 57), (.t 58)]), (some 60, .bin .leq (.t 59) (.c (.int .i64 0)))]⟩, ⟨none, [(some 61, .pick (.t 55) (.c (.bool true)) (.t 60))]⟩] [3, 5, 11, 12, 61])
 (.ite (.t 61)
 (.seq (.rg [⟨none, [(some 62, .mv (.t 12)), (some 63, .ld (.t 3) 8 true), (some 64, .call 16 [(.t 63)]), (some 65, .bin .eql (.t 62) (.t 64)), (some 4, .mv (.t 65))]⟩] [4])
 .ret)
 .skip))
 (.seq (.rg [⟨none, [(some 67, .mv (.t 5)), (some 68, .ld (.t 3) 8 true), (some 69, .bldS 26 8 (.c (.c (.s (.int .i64 0)) (.c (.s (.int .i64 0)) .u)) (.c (.s (.int .i64 0)) (.c (.s (.int .i64 0)) (.c (.s (.int .i64 0)) (.c (.s (.string ⟨#[]⟩)) (.c (.s (.string ⟨#[]⟩)) (.c (.s (.string ⟨#[]⟩)) .u))))))) [(.t 68)]), (some 70, .call 14 [(.t 67), (.t 69)]), (some 66, .mv (.t 70)), (some 71, .ext (.t 66) 0), (some 72, .ext (.t 66) 1), (some 13, .mv (.t 71)), (some 12, .mv (.t 72))]⟩] [11, 12, 13])
 (.seq (.rg [⟨none, [(some 73, .mv (.t 12)), (some 74, .bin .eql (.t 73) (.c (.int .i64 0))), (some 75, .mv (.t 74))]⟩, ⟨some (75, true), [(some 76, .mv (.t 13)), (some 77, .bin .eql (.t 76) (.c (.int .i64 1))), (some 78, .mv (.t 11)), (some 79, .eqA false 4 (.t 77) (.t 78))]⟩, ⟨none, [(some 80, .pick (.t 75) (.t 79) (.c (.bool false))), (some 4, .mv (.t 80))]⟩] [4])
 .ret)))))))))
theorem k_law13_OplogWould : Ok Tryz.prog 4 c_law13_OplogWould 81 [] [.tmp 4] := Ok.mk' Tryz.func4 (by kernel_rfl) (by kernel_rfl) (by kernel_rfl)

end Go.Proofs.YtmjiojflncffeaaGreat.Vc

/- OplogRedoes and OplogWould, the walks. -/
set_option linter.unusedVariables false
set_option linter.unusedSimpArgs false
set_option maxRecDepth 100000
namespace Go.Proofs.YtmjiojflncffeaaGreat.Vc
open Go Go.Proofs

/-- No operation is behind this stamp. -/
def Top (p : PL) (s : Stamp) : Prop := ∀ d ∈ p.ds, ¬ ltK s.k d.k
theorem top_add {p p' : PL} {op : Op} {n : Int} {s : Stamp} (h : Added p [op] p' n) (ht : Top p s) : (0 < rcmpA op.stamp s → Top p' op.stamp) ∧ (¬ 0 < rcmpA op.stamp s → Top p' s) := by
  have hm : ∀ d ∈ p'.ds, (∃ d0 ∈ p.ds, d0.k = d.k) ∨ d.k = op.k := fun d hd => by
    have : d.op ∈ p.ds.map (·.op) ++ [op] := h.perm.mem_iff.1 (List.mem_map.2 ⟨d, hd, rfl⟩)
    rcases List.mem_append.1 this with h1 | h1
    · obtain ⟨d0, h2, e⟩ := List.mem_map.1 h1
      exact .inl ⟨d0, h2, by show d0.op.k = d.op.k; rw [e]⟩
    · right
      show d.op.k = op.k
      rw [List.mem_singleton.1 h1]
  refine ⟨fun hc d hd => ?_, fun hc d hd => ?_⟩
  · rw [rcmpA_pos] at hc
    rcases hm d hd with ⟨d0, h1, e⟩ | e
    · rw [← e]
      exact fun hl => ht d0 h1 (ltK_trans hc hl)
    · rw [e]; exact ltK_irrefl _
  · rw [rcmpA_pos] at hc
    rcases hm d hd with ⟨d0, h1, e⟩ | e
    · rw [← e]; exact ht d0 h1
    · rw [e]; exact hc
theorem checkE_well {op : Op} (h : checkE op = 0) : Well op := fun hw => by
  rw [checkE_a hw] at h; cases h
theorem checkE_time {op : Op} (h : checkE op = 0) : 1 ≤ op.stamp.time := by
  have := checkE_well h
  unfold Well at this
  have hc : CheckP op.stamp := Classical.byContradiction fun hn => this (.inl hn)
  exact hc.1
theorem last_below {p : PL} {s : Stamp} (ht : Top p s) {last : Op} (hl : ltK s.k last.k) : ∀ d ∈ p.ds, ltK d.k last.k := fun d hd => by
  rcases ltK_tri d.k last.k with h | h | h
  · exact h
  · exact absurd (by rw [h]; exact hl) (ht d hd)
  · exact absurd (ltK_trans hl h) (ht d hd)
theorem last_look {p : PL} {s : Stamp} (ht : Top p s) {last : Op} (hl : ltK s.k last.k) (hf : p.fr = 0) : lookE p.ds p.fr [] [last] = checkE last := by
  rw [lookE_one]
  by_cases hc : checkE last = 0
  · have h1 := checkE_time hc
    have h2 : hasA p.ds last.k = false := by
      rw [hasA, decide_eq_false_iff_not]
      intro hm
      obtain ⟨d, hd, e⟩ := List.mem_map.1 hm
      have := last_below ht hl d hd
      rw [e] at this
      exact ltK_irrefl _ this
    rw [if_neg (by simp [hc]), if_neg (by omega), h2, hc]
    rfl
  · rw [if_pos hc]
/-- What is put behind all others: it is taken where it may be now. -/
theorem last_taken {p p' : PL} {mk mk' : Value} {kb q q' : Nat} {last : Op} {n : Int} {s : Stamp} (hg : p.good mk kb q) (hg' : p'.good mk' kb q') (hA : Added p [last] p' n) (ht : Top p s) (hl : ltK s.k last.k) : n = if mayA p.T last = true then 1 else 0 := by
  have hb := last_below ht hl
  have hr1 : Rising ((p.ds.map (·.op) ++ [last]).map Op.k) := by
    rw [Rising, List.map_append, List.pairwise_append]
    refine ⟨by rw [List.map_map]; exact hg.ris, by simp, fun a ha c hc => ?_⟩
    rw [List.map_map] at ha
    obtain ⟨d, hd, rfl⟩ := List.mem_map.1 ha
    rw [show c = last.k by simpa using hc]
    exact hb d hd
  have hr2 : Rising ((p'.ds.map (·.op)).map Op.k) := by rw [List.map_map]; exact hg'.ris
  have he : p'.ds.map (·.op) = p.ds.map (·.op) ++ [last] := Rising.uniq hA.perm hr2 hr1
  have hlen := ops_len hA
  rw [List.length_singleton] at hlen
  obtain ⟨ds, d, hds⟩ : ∃ ds d, p'.ds = ds ++ [d] := by
    rcases List.eq_nil_or_concat p'.ds with h | ⟨ds, d, h⟩
    · rw [h] at hlen; simp at hlen
    · exact ⟨ds, d, by rw [h, List.concat_eq_append]⟩
  rw [hds, List.map_append, List.map_cons, List.map_nil] at he
  obtain ⟨e1, e2⟩ := List.append_inj' he rfl
  have e2 : d.op = last := by simpa using e2
  have hh := hg'.fl.hist
  rw [hds] at hh
  have htk := hh.taken
  have hI := ideal_ok hg.bok (l := p.ds.map (·.op)) fun op hop => by
    obtain ⟨x, hx, rfl⟩ := List.mem_map.1 hop
    exact hg.ops x hx
  rw [hA.B, e1, e2, ← may_eq hg.tok hI hg.fl.view] at htk
  rw [hA.n, hds, count_snoc]
  have hz : (ds.filter fun d => d.taken && decide (d.k ∈ [last].map Op.k)) = [] := List.filter_eq_nil_iff.2 fun x hx => by
    have hx' : x.op ∈ p.ds.map (·.op) := by rw [← e1]; exact List.mem_map.2 ⟨x, hx, rfl⟩
    obtain ⟨y, hy, e⟩ := List.mem_map.1 hx'
    have h2 := hb y hy
    have h3 : x.k = y.k := by show x.op.k = y.op.k; rw [e]
    have : ¬ x.k = last.k := fun h4 => by rw [← h3, h4] at h2; exact ltK_irrefl _ h2
    simp [this]
  rw [hz, htk]
  have hk : d.k = last.k := by show d.op.k = _; rw [e2]
  cases mayA p.T last <;> simp [hk]
/-- A log on its way through the law. -/
structure Way1 (b : Nat) (m : PH) (L Lb : Lay) (p : PL) (s : Stamp) (i : Nat) : Prop where
  M : LogM m b L Lb p
  good : p.good (ptr (L .mk)) 0 (tri p.ds.length)
  few : p.ds.length ≤ i
  fr : p.fr = 0
  top : Top p s
theorem redoes_spec (w : World) (v : Value) (ops : List Op) (last : Op) (hb : ops.length ≤ 1048576) (ho : ∀ op ∈ ops, OpIn op ∧ OpOk op) (hl : OpIn last ∧ OpOk last) (h : SlR w.ph v 8 (ops.map gOp)) :
    Spec Tryz.prog f_law13_OplogRedoes [v, (gOp last).val] PH.no w fun rs _ => rs = [.s (.bool true)] := by
  refine spec_val k_law13_OplogRedoes (Qf := fun rs => rs = [.s (.bool true)]) [.ro v 8 (gOp zOp) (ops.map gOp), .g (gOp last)] (by simp) (by simpa [AV.ok, u0_no, gOp_ok] using h) ?_
  simp (maxSteps := 2000000) only [c_law13_OplogRedoes, vc_seq, vc_rg, thenQ_n, kKeep_eq, segs_nil, segs_n, ops_nil, ops_cons, vcOp, ev, look, updL, put_mk, keep_mk, keepL, Value.oneCell', cond_true, Nat.reduceEqDiff, ↓reduceIte, reduceCtorEq, Nat.zero_add, Bool.true_and, true_and, initF, initP, List.length_map, gStamp_zero, gOp_zero]
  refine call_ownm rfl rfl (Q := fun rs m' => ∃ b L Lb, rs = [.s (ptr b)] ∧ LogM m' b L Lb PL.new) (fun w' vs hv hw _ _ => ?_) fun rs m0 _ hq _ => ?_
  · obtain rfl := argsV_nil hv
    exact logNew_spec w'
  obtain ⟨b, L0, Lb, rfl, hL⟩ := hq
  simp (maxSteps := 2000000) only [retS, uni_no_r, vc_seq, vc_rg, thenQ_n, kKeep_eq, segs_nil, segs_n, ops_nil, ops_cons, vcOp, ev, look, put_mk, keep_mk, keepL, Value.oneCell', cond_true, Nat.reduceEqDiff, ↓reduceIte, reduceCtorEq, ptr]
  refine eq_of (eqLog b) ?_
  simp (maxSteps := 2000000) only [segs_g, ops_nil, ops_cons, vcOp, ev, look, put_mk, ↓reduceIte, ↓br_ff, Bool.bne_false]
  refine call_ism _ [.s (.bool true)] rfl rfl (fun w' vs hv _ _ hm => ?_) ?_
  · obtain rfl := argsV_nil hv
    exact live13_spec w'
  simp (maxSteps := 2000000) only [retS, vc_skip, vc_seq, vc_block, vc_rg, vc_ite, thenQ_n, kKeep_eq, segs_nil, segs_n, ops_nil, ops_cons, vcOp, ev, evL, gvL, look, updL, put_mk, put_mk0, keep_mk, keepL, unV, Value.oneCell', cond_true, Nat.reduceEqDiff, ↓reduceIte, reduceCtorEq, Bool.and_true, Bool.true_and, Bool.not_true, true_and, and_true, List.map_nil, ↓br_ft, GV.bldT, GV.bldC, getT_nil, setT_nil, gStamp_sz, gStamp_same]
  refine vc_loop (ι := Nat × Lay × PL × PH × Stamp) (fun x => ⟨[(3, .ref 3 []), (5, .g (.s (.pointer (some ⟨b, 0, none⟩)))), (6, .ref 6 []), (21, .row 0 0 (ops.length)), (22, .g (.s (.int .i64 (ops.length)))), (23, .g (.s (.int .i64 (x.1))))], [(0, .ro 8 (gOp zOp) (ops.map gOp)), (3, .box (gOp last)), (6, .box (gStamp x.2.2.2.2))], [], x.2.2.2.1⟩)
    (fun x => x.1 ≤ ops.length ∧ Way1 b x.2.2.2.1 x.2.1 Lb x.2.2.1 x.2.2.2.2 x.1) (fun x => ops.length - x.1) (0, L0, PL.new, m0, zStamp) ⟨by simp, hL, (PL.new_good _).up (Nat.zero_le _), Nat.le_refl _, rfl, fun d hd => by cases hd⟩ (ge_of ?_ ?_ rfl rfl rfl) ?_
  · simp [frIn, look]
  · simp [pvIn, look]
  rintro ⟨i, L, p, m, s⟩ ⟨hi, hM, hg, hfew, hfr, htop⟩
  simp only at hi hM hg hfew hfr htop
  generalize hQ : loopQ _ _ _ _ _ = Q
  simp (maxSteps := 2000000) only [c_law13_OplogRedoes_L0, vc_skip, vc_exit, vc_seq, vc_block, vc_rg, vc_ite, thenQ_n, thenQ_e, kKeep_eq, segs_nil, segs_n, ops_nil, ops_cons, vcOp, ev, evL, gvL, look, updL, put_mk, put_mk0, keep_mk, keepL, rowE, rowD, binV, binC, Nat.reduceEqDiff, ↓reduceIte, reduceCtorEq, Nat.zero_add, Bool.and_true, Bool.true_and, true_and, and_true, Option.map_some, szAll, List.length_cons, List.length_nil, Int.toNat_natCast, decide_eq_true_eq, decide_eq_false_iff_not, br_t, getT_nil, setT_nil, gStamp_zero, gOp_sz, gOp_fits, gOp_same, gOp_zero, getD_gOp]
  refine ⟨fun hlt => ⟨⟨by omega, by omega⟩, ?_⟩, fun hge => ?_⟩
  · have hil : i < ops.length := by omega
    obtain ⟨op, hop⟩ : ∃ op, ops.getD i zOp = op := ⟨_, rfl⟩
    have hoo := ho op (hop ▸ getD_in hil zOp)
    rw [hop]
    refine call_split m PH.no rfl rfl (uni_no_r _).symm (dis_no_r _) (Q := StepQ b L Lb p 0 [op]) (fun w' vs hv _ _ _ => ?_) fun rs m1 _ hq _ => ?_
    · obtain ⟨vs, rfl, _, hv⟩ := argsB_g hv
      obtain ⟨v', vs, rfl, hs, hv⟩ := argsB_row (z := 8) (xs := [gOp op]) rfl rfl hv
      obtain rfl := argsB_nil hv
      exact one_split hM hg (by omega) hoo hs
    by_cases hlk : lookE p.ds p.fr [] [op] = 0
    · obtain ⟨L', p', n, hL1, hL2, rfl, hM', hg', hA⟩ := hq.2 hlk
      obtain ⟨ht1, ht2⟩ := top_add hA htop
      have hpl := ops_len hA
      rw [List.length_singleton] at hpl
      have way : ∀ s', Top p' s' → Way1 b m1 L' Lb p' s' (i + 1) := fun s' ht => ⟨hM', by rw [hL2]; exact hg', by omega, hA.fr.trans hfr, ht⟩
      simp (maxSteps := 2000000) only [retS, List.getElem?_cons_succ, List.getElem?_cons_zero, uni_no_r, vc_seq, vc_rg, thenQ_n, kKeep_eq, segs_nil, segs_n, segs_g, ops_nil, ops_cons, vcOp, ev, look, put_mk, keep_mk, keepL, binV, binC, Value.oneCell', cond_true, Nat.reduceEqDiff, ↓reduceIte, reduceCtorEq, List.nil_append, Bool.true_and, BEq.rfl, true_and, ↓br_tt, getT_nil, gStamp_fits, gOp_fld0, gOp_get0]
      refine call_fnv (rcompare_fn op.stamp s) rfl rfl rfl fun _ => ?_
      simp (maxSteps := 2000000) only [retS, gt_iff_lt, vc_skip, vc_rg, vc_ite, thenQ_n, blockQ_n, kKeep_eq, segs_nil, segs_n, ops_nil, ops_cons, vcOp, ev, look, updL, put_mk, put_mk0, keep_mk, keepL, binV, binC, Value.oneCell', cond_true, Nat.reduceEqDiff, ↓reduceIte, reduceCtorEq, List.nil_append, Bool.and_true, Bool.true_and, true_and, and_true, decide_eq_true_eq, decide_eq_false_iff_not, ↓br_tt, br_t, getT_nil, setT_nil, gStamp_sz, gStamp_fits, gStamp_same, gOp_fld0, gOp_get0]
      refine ⟨fun hc => ?_, fun hc => ?_⟩
      · subst hQ; simp only [loopQ_n]; refine ⟨(i + 1, L', p', m1, op.stamp), ?_, ?_, ge_of ?_ ?_ rfl rfl rfl⟩
        · exact ⟨by simp only; omega, way _ (ht1 hc)⟩
        · simp only; omega
        · simp only [frIn, look, Nat.reduceEqDiff, ↓reduceIte, Bool.and_true, Bool.true_and, true_and, and_true]
          rw [wrap_n (by omega)]
          try simp
        · simp [pvIn, look]
      · subst hQ; simp only [loopQ_n]; refine ⟨(i + 1, L', p', m1, s), ?_, ?_, ge_of ?_ ?_ rfl rfl rfl⟩
        · exact ⟨by simp only; omega, way _ (ht2 hc)⟩
        · simp only; omega
        · simp only [frIn, look, Nat.reduceEqDiff, ↓reduceIte, Bool.and_true, Bool.true_and, true_and, and_true]
          rw [wrap_n (by omega)]
          try simp
        · simp [pvIn, look]
    · obtain ⟨rfl, hM'⟩ := hq.1 hlk
      simp (maxSteps := 2000000) only [retS, List.getElem?_cons_succ, List.getElem?_cons_zero, uni_no_r, beq_eq_false_iff_ne.2 hlk, vc_skip, vc_seq, vc_rg, vc_ite, thenQ_n, blockQ_n, kKeep_eq, segs_nil, segs_n, segs_g, ops_nil, ops_cons, vcOp, RO.isGh, skip_mk, skipL, ev, look, put_mk, keep_mk, keepL, binV, binC, Value.oneCell', cond_true, cond_false, Nat.reduceEqDiff, ↓reduceIte, Bool.true_and, Bool.not_true, true_and, ↓br_ft]
      subst hQ; simp only [loopQ_n]; refine ⟨(i + 1, L, p, m1, s), ?_, ?_, ge_of ?_ ?_ rfl rfl rfl⟩
      · exact ⟨by simp only; omega, hM', hg, by simp only; omega, hfr, htop⟩
      · simp only; omega
      · simp only [frIn, look, Nat.reduceEqDiff, ↓reduceIte, Bool.and_true, Bool.true_and, true_and, and_true]
        rw [wrap_n (by omega)]
        try simp
      · simp [pvIn, look]
  · subst hQ
    simp (maxSteps := 2000000) only [vc_seq, vc_rg, thenQ_n, blockQ_e, loopQ_e, segs_n, ops_cons, vcOp, ev, look, put_mk, Nat.reduceEqDiff, ↓reduceIte, reduceCtorEq, List.nil_append, Bool.true_and, true_and, getT_nil, gStamp_fits, gOp_fld0, gOp_get0]
    refine call_fnv (rcompare_fn last.stamp s) rfl rfl rfl fun _ => ?_
    simp (maxSteps := 2000000) only [retS, vc_skip, vc_ret, vc_seq, vc_rg, vc_ite, thenQ_n, thenQ_r, kKeep_eq, segs_nil, segs_n, ops_nil, ops_cons, vcOp, ev, evL, gvL, look, updL, put_mk, keep_mk, keepL, binV, binC, Value.oneCell', cond_true, Nat.reduceEqDiff, ↓reduceIte, reduceCtorEq, Nat.zero_add, Bool.and_true, Bool.true_and, true_and, and_true, Option.map_some, szAll, List.length_cons, List.length_nil, finW_r, resL, resOne, decide_eq_true_eq, decide_eq_false_iff_not, br_t, getT_nil, gOp_sz, gOp_fits]
    refine ⟨fun _ => trivial, fun hc => ?_⟩
    have hgt : ltK s.k last.k := (rcmpA_pos last.stamp s).1 (by omega)
    refine call_split m PH.no rfl rfl (uni_no_r _).symm (dis_no_r _) (Q := StepQ b L Lb p 0 [last]) (fun w' vs hv _ _ _ => ?_) fun rs m1 _ hq _ => ?_
    · obtain ⟨vs, rfl, _, hv⟩ := argsB_g hv
      obtain ⟨v', vs, rfl, hs, hv⟩ := argsB_row (z := 8) (xs := [gOp last]) rfl rfl hv
      obtain rfl := argsB_nil hv
      exact one_split hM hg (by omega) hl hs
    have hlk := last_look htop hgt hfr
    rw [StepQ, hlk] at hq
    by_cases hc0 : checkE last = 0
    · obtain ⟨L', p', n, hL1, hL2, rfl, hM', hg', hA⟩ := hq.2 hc0
      have hred : p'.red = 0 := hA.red0 fun op hop d hd => by
        rw [List.mem_singleton.1 hop]
        exact last_below htop hgt d hd
      simp (maxSteps := 2000000) only [retS, List.getElem?_cons_succ, List.getElem?_cons_zero, uni_no_r, vc_seq, vc_rg, thenQ_n, kKeep_eq, segs_nil, segs_n, ops_nil, ops_cons, vcOp, ev, look, put_mk, keep_mk, keepL, Nat.reduceEqDiff, ↓reduceIte, reduceCtorEq, Bool.true_and, true_and, getT_nil, gOp_fits]
      refine call_fnv (rcheckOp_fn last hl.1) rfl rfl rfl fun _ => ?_
      simp (maxSteps := 2000000) only [retS, hc0, Int.reduceBNe, segs_g, ops_nil, ops_cons, vcOp, ev, look, put_mk, binV, binC, Value.oneCell', cond_true, Nat.reduceEqDiff, ↓reduceIte, Bool.true_and, BEq.rfl, true_and, ↓br_tt, ↓br_ff]
      refine call_ism _ [.s (.int .i64 0)] rfl rfl (fun w' vs hv _ _ hm => ?_) ?_
      · obtain ⟨vs, rfl, _, hv⟩ := argsV_g hv
        obtain rfl := argsV_nil hv
        have := logRedone_spec hm hM'
        rw [hred] at this
        exact this
      simp (maxSteps := 2000000) only [retS, vc_ret, thenQ_n, kKeep_eq, segs_nil, segs_n, segs_g, ops_nil, ops_cons, vcOp, ev, look, put_mk, keep_mk, keepL, binV, binC, Value.oneCell', cond_true, Nat.reduceEqDiff, ↓reduceIte, Bool.and_true, BEq.rfl, and_true, finW_r, resL, resOne, ↓br_tt, ↓br_ft]
    · obtain ⟨rfl, hM'⟩ := hq.1 hc0
      simp (maxSteps := 2000000) only [retS, List.getElem?_cons_succ, List.getElem?_cons_zero, uni_no_r, vc_seq, vc_rg, thenQ_n, kKeep_eq, segs_nil, segs_n, ops_nil, ops_cons, vcOp, ev, look, put_mk, keep_mk, keepL, Nat.reduceEqDiff, ↓reduceIte, reduceCtorEq, Bool.true_and, true_and, getT_nil, gOp_fits]
      refine call_fnv (rcheckOp_fn last hl.1) rfl rfl rfl fun _ => ?_
      simp (maxSteps := 2000000) only [retS, bne_iff_ne.2 hc0, beq_self_eq_true, vc_ret, thenQ_n, kKeep_eq, segs_nil, segs_n, segs_g, ops_nil, ops_cons, vcOp, RO.isGh, skip_mk, skipL, ev, look, put_mk, keep_mk, keepL, binV, binC, Value.oneCell', cond_true, cond_false, Nat.reduceEqDiff, ↓reduceIte, Bool.and_true, Bool.not_false, and_true, finW_r, resL, resOne, ↓br_tt, ↓br_tf]
theorem would13_spec (w : World) (v : Value) (ops : List Op) (last : Op) (hb : ops.length ≤ 1048576) (ho : ∀ op ∈ ops, OpIn op ∧ OpOk op) (hl : OpIn last ∧ OpOk last) (h : SlR w.ph v 8 (ops.map gOp)) :
    Spec Tryz.prog f_law13_OplogWould [v, (gOp last).val] PH.no w fun rs _ => rs = [.s (.bool true)] := by
  refine spec_val k_law13_OplogWould (Qf := fun rs => rs = [.s (.bool true)]) [.ro v 8 (gOp zOp) (ops.map gOp), .g (gOp last)] (by simp) (by simpa [AV.ok, u0_no, gOp_ok] using h) ?_
  simp (maxSteps := 2000000) only [c_law13_OplogWould, vc_seq, vc_rg, thenQ_n, kKeep_eq, segs_nil, segs_n, ops_nil, ops_cons, vcOp, ev, look, updL, put_mk, keep_mk, keepL, Value.oneCell', cond_true, Nat.reduceEqDiff, ↓reduceIte, reduceCtorEq, Nat.zero_add, Bool.true_and, true_and, initF, initP, List.length_map, gStamp_zero, gOp_zero]
  refine call_ownm rfl rfl (Q := fun rs m' => ∃ b L Lb, rs = [.s (ptr b)] ∧ LogM m' b L Lb PL.new) (fun w' vs hv hw _ _ => ?_) fun rs m0 _ hq _ => ?_
  · obtain rfl := argsV_nil hv
    exact logNew_spec w'
  obtain ⟨b, L0, Lb, rfl, hL⟩ := hq
  simp (maxSteps := 2000000) only [retS, uni_no_r, vc_seq, vc_rg, thenQ_n, kKeep_eq, segs_nil, segs_n, ops_nil, ops_cons, vcOp, ev, look, put_mk, keep_mk, keepL, Value.oneCell', cond_true, Nat.reduceEqDiff, ↓reduceIte, reduceCtorEq, ptr]
  refine eq_of (eqLog b) ?_
  simp (maxSteps := 2000000) only [segs_g, ops_nil, ops_cons, vcOp, ev, look, put_mk, ↓reduceIte, ↓br_ff, Bool.bne_false]
  refine call_ism _ [.s (.bool true)] rfl rfl (fun w' vs hv _ _ hm => ?_) ?_
  · obtain rfl := argsV_nil hv
    exact live13_spec w'
  simp (maxSteps := 2000000) only [retS, vc_skip, vc_seq, vc_block, vc_rg, vc_ite, thenQ_n, kKeep_eq, segs_nil, segs_n, ops_nil, ops_cons, vcOp, ev, evL, gvL, look, updL, put_mk, put_mk0, keep_mk, keepL, unV, Value.oneCell', cond_true, Nat.reduceEqDiff, ↓reduceIte, reduceCtorEq, Bool.and_true, Bool.true_and, Bool.not_true, true_and, and_true, List.map_nil, ↓br_ft, GV.bldT, GV.bldC, getT_nil, setT_nil, gStamp_sz, gStamp_same]
  refine vc_loop (ι := Nat × Lay × PL × PH × Stamp) (fun x => ⟨[(3, .ref 3 []), (5, .g (.s (.pointer (some ⟨b, 0, none⟩)))), (6, .ref 6 []), (22, .row 0 0 (ops.length)), (23, .g (.s (.int .i64 (ops.length)))), (24, .g (.s (.int .i64 (x.1))))], [(0, .ro 8 (gOp zOp) (ops.map gOp)), (3, .box (gOp last)), (6, .box (gStamp x.2.2.2.2))], [], x.2.2.2.1⟩)
    (fun x => x.1 ≤ ops.length ∧ Way1 b x.2.2.2.1 x.2.1 Lb x.2.2.1 x.2.2.2.2 x.1) (fun x => ops.length - x.1) (0, L0, PL.new, m0, zStamp) ⟨by simp, hL, (PL.new_good _).up (Nat.zero_le _), Nat.le_refl _, rfl, fun d hd => by cases hd⟩ (ge_of ?_ ?_ rfl rfl rfl) ?_
  · simp [frIn, look]
  · simp [pvIn, look]
  rintro ⟨i, L, p, m, s⟩ ⟨hi, hM, hg, hfew, hfr, htop⟩
  simp only at hi hM hg hfew hfr htop
  generalize hQ : loopQ _ _ _ _ _ = Q
  simp (maxSteps := 2000000) only [c_law13_OplogWould_L0, vc_skip, vc_exit, vc_seq, vc_block, vc_rg, vc_ite, thenQ_n, thenQ_e, kKeep_eq, segs_nil, segs_n, ops_nil, ops_cons, vcOp, ev, evL, gvL, look, updL, put_mk, put_mk0, keep_mk, keepL, rowE, rowD, binV, binC, Nat.reduceEqDiff, ↓reduceIte, reduceCtorEq, Nat.zero_add, Bool.and_true, Bool.true_and, true_and, and_true, Option.map_some, szAll, List.length_cons, List.length_nil, Int.toNat_natCast, decide_eq_true_eq, decide_eq_false_iff_not, br_t, getT_nil, setT_nil, gStamp_zero, gOp_sz, gOp_fits, gOp_same, gOp_zero, getD_gOp]
  refine ⟨fun hlt => ⟨⟨by omega, by omega⟩, ?_⟩, fun hge => ?_⟩
  · have hil : i < ops.length := by omega
    obtain ⟨op, hop⟩ : ∃ op, ops.getD i zOp = op := ⟨_, rfl⟩
    have hoo := ho op (hop ▸ getD_in hil zOp)
    rw [hop]
    refine call_split m PH.no rfl rfl (uni_no_r _).symm (dis_no_r _) (Q := StepQ b L Lb p 0 [op]) (fun w' vs hv _ _ _ => ?_) fun rs m1 _ hq _ => ?_
    · obtain ⟨vs, rfl, _, hv⟩ := argsB_g hv
      obtain ⟨v', vs, rfl, hs, hv⟩ := argsB_row (z := 8) (xs := [gOp op]) rfl rfl hv
      obtain rfl := argsB_nil hv
      exact one_split hM hg (by omega) hoo hs
    by_cases hlk : lookE p.ds p.fr [] [op] = 0
    · obtain ⟨L', p', n, hL1, hL2, rfl, hM', hg', hA⟩ := hq.2 hlk
      obtain ⟨ht1, ht2⟩ := top_add hA htop
      have hpl := ops_len hA
      rw [List.length_singleton] at hpl
      have way : ∀ s', Top p' s' → Way1 b m1 L' Lb p' s' (i + 1) := fun s' ht => ⟨hM', by rw [hL2]; exact hg', by omega, hA.fr.trans hfr, ht⟩
      simp (maxSteps := 2000000) only [retS, List.getElem?_cons_succ, List.getElem?_cons_zero, uni_no_r, vc_seq, vc_rg, thenQ_n, kKeep_eq, segs_nil, segs_n, segs_g, ops_nil, ops_cons, vcOp, ev, look, put_mk, keep_mk, keepL, binV, binC, Value.oneCell', cond_true, Nat.reduceEqDiff, ↓reduceIte, reduceCtorEq, List.nil_append, Bool.true_and, BEq.rfl, true_and, ↓br_tt, getT_nil, gStamp_fits, gOp_fld0, gOp_get0]
      refine call_fnv (rcompare_fn op.stamp s) rfl rfl rfl fun _ => ?_
      simp (maxSteps := 2000000) only [retS, gt_iff_lt, vc_skip, vc_rg, vc_ite, thenQ_n, blockQ_n, kKeep_eq, segs_nil, segs_n, ops_nil, ops_cons, vcOp, ev, look, updL, put_mk, put_mk0, keep_mk, keepL, binV, binC, Value.oneCell', cond_true, Nat.reduceEqDiff, ↓reduceIte, reduceCtorEq, List.nil_append, Bool.and_true, Bool.true_and, true_and, and_true, decide_eq_true_eq, decide_eq_false_iff_not, ↓br_tt, br_t, getT_nil, setT_nil, gStamp_sz, gStamp_fits, gStamp_same, gOp_fld0, gOp_get0]
      refine ⟨fun hc => ?_, fun hc => ?_⟩
      · subst hQ; simp only [loopQ_n]; refine ⟨(i + 1, L', p', m1, op.stamp), ?_, ?_, ge_of ?_ ?_ rfl rfl rfl⟩
        · exact ⟨by simp only; omega, way _ (ht1 hc)⟩
        · simp only; omega
        · simp only [frIn, look, Nat.reduceEqDiff, ↓reduceIte, Bool.and_true, Bool.true_and, true_and, and_true]
          rw [wrap_n (by omega)]
          try simp
        · simp [pvIn, look]
      · subst hQ; simp only [loopQ_n]; refine ⟨(i + 1, L', p', m1, s), ?_, ?_, ge_of ?_ ?_ rfl rfl rfl⟩
        · exact ⟨by simp only; omega, way _ (ht2 hc)⟩
        · simp only; omega
        · simp only [frIn, look, Nat.reduceEqDiff, ↓reduceIte, Bool.and_true, Bool.true_and, true_and, and_true]
          rw [wrap_n (by omega)]
          try simp
        · simp [pvIn, look]
    · obtain ⟨rfl, hM'⟩ := hq.1 hlk
      simp (maxSteps := 2000000) only [retS, List.getElem?_cons_succ, List.getElem?_cons_zero, uni_no_r, beq_eq_false_iff_ne.2 hlk, vc_skip, vc_seq, vc_rg, vc_ite, thenQ_n, blockQ_n, kKeep_eq, segs_nil, segs_n, segs_g, ops_nil, ops_cons, vcOp, RO.isGh, skip_mk, skipL, ev, look, put_mk, keep_mk, keepL, binV, binC, Value.oneCell', cond_true, cond_false, Nat.reduceEqDiff, ↓reduceIte, Bool.true_and, Bool.not_true, true_and, ↓br_ft]
      subst hQ; simp only [loopQ_n]; refine ⟨(i + 1, L, p, m1, s), ?_, ?_, ge_of ?_ ?_ rfl rfl rfl⟩
      · exact ⟨by simp only; omega, hM', hg, by simp only; omega, hfr, htop⟩
      · simp only; omega
      · simp only [frIn, look, Nat.reduceEqDiff, ↓reduceIte, Bool.and_true, Bool.true_and, true_and, and_true]
        rw [wrap_n (by omega)]
        try simp
      · simp [pvIn, look]
  · subst hQ
    simp (maxSteps := 2000000) only [vc_seq, vc_rg, thenQ_n, blockQ_e, loopQ_e, segs_n, ops_cons, vcOp, ev, look, put_mk, Nat.reduceEqDiff, ↓reduceIte, reduceCtorEq, Bool.true_and, true_and, getT_nil, gOp_fits]
    have hq4 : tri p.ds.length ≤ 1099511627776 := by have := tri_le (n := p.ds.length) (by omega); omega
    refine call_ism _ [.s (.bool (decide (checkE last = 0) && mayA p.T last)), .s (.int .i64 (checkE last))] rfl rfl (fun w' vs hv _ _ hm => ?_) ?_
    · obtain ⟨vs, rfl, _, hv⟩ := argsV_g hv
      obtain ⟨vs, rfl, _, hv⟩ := argsV_g hv
      obtain rfl := argsV_nil hv
      exact would_spec hm hM hg hq4 last hl.1
    by_cases hc0 : checkE last = 0
    case neg =>
      simp (maxSteps := 2000000) only [retS, List.getElem?_cons_succ, List.getElem?_cons_zero, bne_iff_ne.2 hc0, vc_seq, vc_rg, vc_ite, thenQ_n, kKeep_eq, segs_nil, segs_n, segs_g, ops_nil, ops_cons, vcOp, RO.isGh, skip_mk, skipL, ev, look, put_mk, keep_mk, keepL, binV, binC, Value.oneCell', cond_true, cond_false, Nat.reduceEqDiff, ↓reduceIte, reduceCtorEq, Bool.true_and, Bool.not_false, true_and, ↓br_tt, ↓br_tf, getT_nil, gOp_fits]
      refine call_fnv (rcheckOp_fn last hl.1) rfl rfl rfl fun _ => ?_
      simp (maxSteps := 2000000) only [retS, beq_self_eq_true, vc_ret, thenQ_n, thenQ_r, kKeep_eq, segs_nil, ops_nil, ops_cons, vcOp, ev, look, put_mk, keep_mk, keepL, binV, binC, Nat.reduceEqDiff, ↓reduceIte, Bool.and_true, and_true, finW_r, resL, resOne]
    simp (maxSteps := 2000000) only [retS, List.getElem?_cons_succ, List.getElem?_cons_zero, hc0, Int.reduceBNe, vc_seq, vc_rg, thenQ_n, kKeep_eq, segs_nil, segs_n, segs_g, ops_nil, ops_cons, vcOp, ev, look, put_mk, keep_mk, keepL, binV, binC, Value.oneCell', cond_true, Nat.reduceEqDiff, ↓reduceIte, reduceCtorEq, List.nil_append, Bool.true_and, decide_true, true_and, ↓br_ff, getT_nil, gStamp_fits, gOp_fld0, gOp_get0]
    refine call_fnv (rcompare_fn last.stamp s) rfl rfl rfl fun _ => ?_
    simp (maxSteps := 2000000) only [retS, vc_skip, vc_seq, vc_rg, vc_ite, thenQ_n, kKeep_eq, segs_nil, segs_n, ops_nil, ops_cons, vcOp, ev, evL, gvL, look, updL, put_mk, keep_mk, keepL, binV, binC, Value.oneCell', cond_true, Nat.reduceEqDiff, ↓reduceIte, reduceCtorEq, Nat.zero_add, Bool.and_true, Bool.true_and, true_and, and_true, Option.map_some, szAll, List.length_cons, List.length_nil, decide_eq_true_eq, decide_eq_false_iff_not, ↓br_ft, br_t, getT_nil, gOp_sz, gOp_fits]
    refine ⟨fun hc => ?_, fun hc => ?_⟩
    · refine call_fnv (rcheckOp_fn last hl.1) rfl rfl rfl fun _ => ?_
      simp (maxSteps := 2000000) only [retS, hc0, beq_self_eq_true, vc_ret, thenQ_n, thenQ_r, kKeep_eq, segs_nil, ops_nil, ops_cons, vcOp, ev, look, put_mk, keep_mk, keepL, binV, binC, Nat.reduceEqDiff, ↓reduceIte, Bool.and_true, and_true, finW_r, resL, resOne]
    have hgt : ltK s.k last.k := (rcmpA_pos last.stamp s).1 (by omega)
    refine call_split m PH.no rfl rfl (uni_no_r _).symm (dis_no_r _) (Q := StepQ b L Lb p 0 [last]) (fun w' vs hv _ _ _ => ?_) fun rs m1 _ hq _ => ?_
    · obtain ⟨vs, rfl, _, hv⟩ := argsB_g hv
      obtain ⟨v', vs, rfl, hs, hv⟩ := argsB_row (z := 8) (xs := [gOp last]) rfl rfl hv
      obtain rfl := argsB_nil hv
      exact one_split hM hg (by omega) hl hs
    have hlk := last_look htop hgt hfr
    rw [StepQ, hlk] at hq
    obtain ⟨L', p', n, hL1, hL2, rfl, hM', hg', hA⟩ := hq.2 hc0
    have hn := last_taken hg hg' hA htop hgt
    subst hn
    simp (maxSteps := 2000000) only [retS, List.getElem?_cons_succ, List.getElem?_cons_zero, uni_no_r, vc_seq, vc_rg, thenQ_n, kKeep_eq, segs_nil, segs_n, segs_g, ops_nil, ops_cons, vcOp, ev, look, put_mk, keep_mk, keepL, binV, binC, Value.oneCell', cond_true, Nat.reduceEqDiff, ↓reduceIte, Bool.true_and, BEq.rfl, true_and, ↓br_tt]
    have : ((if mayA p.T last = true then (1 : Int) else 0) == 1) = mayA p.T last := by cases mayA p.T last <;> rfl
    rw [this]
    refine eq_of (eqG_bool Tryz.underlying4 _ _) ?_
    simp (maxSteps := 2000000) only [vc_ret, thenQ_n, kKeep_eq, segs_nil, segs_n, ops_nil, ops_cons, vcOp, ev, look, put_mk, keep_mk, keepL, Value.oneCell', cond_true, Nat.reduceEqDiff, ↓reduceIte, BEq.rfl, finW_r, resL, resOne, ↓br_tt, Bool.bne_false]
end Go.Proofs.YtmjiojflncffeaaGreat.Vc

/- The code of some functions of the program, its types resolved: printed by a program of this claim. -/
set_option linter.unusedVariables false
set_option maxRecDepth 100000
namespace Go.Proofs.YtmjiojflncffeaaGreat.Vc
open Go Go.Proofs

abbrev f_law13_OplogOrders : Nat := 5
def c_law13_OplogOrders_L0 : Cd :=
 (.seq (.rg [⟨none, [(some 39, .bin .lss (.t 38) (.t 37))]⟩] [1, 2, 7, 8, 9, 36, 37, 38, 39])
 (.seq (.ite (.t 39)
 .skip
 (.exit 0))
 (.seq (.block 1 (.seq (.rg [⟨none, [(some 40, .idxS (.t 36) (.t 38) 8), (some 41, .ld (.t 40) 8 true), (some 11, .new 26 (.c (.c (.s (.int .i64 0)) (.c (.s (.int .i64 0)) .u)) (.c (.s (.int .i64 0)) (.c (.s (.int .i64 0)) (.c (.s (.int .i64 0)) (.c (.s (.string ⟨#[]⟩)) (.c (.s (.string ⟨#[]⟩)) (.c (.s (.string ⟨#[]⟩)) .u)))))))), (none, .st (.t 11) (.t 41) 8)]⟩] [1, 2, 7, 8, 9, 11, 36, 37, 38])
 (.seq (.rg [⟨none, [(some 43, .mv (.t 7)), (some 44, .ld (.t 11) 8 true), (some 45, .bldS 26 8 (.c (.c (.s (.int .i64 0)) (.c (.s (.int .i64 0)) .u)) (.c (.s (.int .i64 0)) (.c (.s (.int .i64 0)) (.c (.s (.int .i64 0)) (.c (.s (.string ⟨#[]⟩)) (.c (.s (.string ⟨#[]⟩)) (.c (.s (.string ⟨#[]⟩)) .u))))))) [(.t 44)]), (some 46, .call 14 [(.t 43), (.t 45)]), (some 42, .mv (.t 46)), (some 47, .ext (.t 42) 0), (some 48, .ext (.t 42) 1), (some 12, .mv (.t 47)), (some 13, .mv (.t 48))]⟩] [1, 2, 7, 8, 9, 11, 13, 36, 37, 38])
 (.seq (.rg [⟨none, [(some 49, .mv (.t 13)), (some 50, .bin .eql (.t 49) (.c (.int .i64 0)))]⟩] [1, 2, 7, 8, 9, 11, 36, 37, 38, 50])
 (.ite (.t 50)
 (.rg [⟨none, [(some 51, .mv (.t 9)), (some 52, .ld (.t 11) 8 true), (some 53, .bldS 26 8 (.c (.c (.s (.int .i64 0)) (.c (.s (.int .i64 0)) .u)) (.c (.s (.int .i64 0)) (.c (.s (.int .i64 0)) (.c (.s (.int .i64 0)) (.c (.s (.string ⟨#[]⟩)) (.c (.s (.string ⟨#[]⟩)) (.c (.s (.string ⟨#[]⟩)) .u))))))) [(.t 52)]), (some 54, .app 26 8 88 (.c (.c (.s (.int .i64 0)) (.c (.s (.int .i64 0)) .u)) (.c (.s (.int .i64 0)) (.c (.s (.int .i64 0)) (.c (.s (.int .i64 0)) (.c (.s (.string ⟨#[]⟩)) (.c (.s (.string ⟨#[]⟩)) (.c (.s (.string ⟨#[]⟩)) .u))))))) (.t 51) (.t 53)), (some 9, .mv (.t 54))]⟩] [1, 2, 7, 8, 9, 36, 37, 38])
 .skip)))))
 (.rg [⟨none, [(some 55, .bin .add (.t 38) (.c (.int .i64 1))), (some 38, .mv (.t 55))]⟩] [1, 2, 7, 8, 9, 36, 37, 38]))))
def c_law13_OplogOrders_L1 : Cd :=
 (.seq (.rg [⟨none, [(some 59, .bin .lss (.t 58) (.t 57))]⟩] [2, 7, 8, 9, 56, 57, 58, 59])
 (.seq (.ite (.t 59)
 .skip
 (.exit 2))
 (.seq (.block 3 (.seq (.rg [⟨none, [(some 60, .mv (.t 58)), (some 61, .idxS (.t 56) (.t 58) 1), (some 62, .ld (.t 61) 1 false), (some 14, .mv (.t 60)), (some 15, .mv (.t 62))]⟩] [2, 7, 8, 9, 14, 15, 56, 57, 58])
 (.seq (.rg [⟨none, [(some 63, .mv (.t 9)), (some 64, .len (.t 63)), (some 65, .bin .gtr (.t 64) (.c (.int .i64 1)))]⟩] [2, 7, 8, 9, 14, 15, 56, 57, 58, 65])
 (.ite (.t 65)
 (.seq (.rgq [⟨none, [(some 66, .mv (.t 14)), (some 67, .mv (.t 9)), (some 68, .len (.t 67)), (some 69, .bin .rem (.t 66) (.t 68)), (some 70, .mv (.t 15)), (some 71, .cvI .i64 (.t 70)), (some 72, .mv (.t 9)), (some 73, .len (.t 72)), (some 74, .bin .rem (.t 71) (.t 73)), (some 16, .mv (.t 69))]⟩] [⟨none, [(some 17, .mv (.t 74))]⟩] [2, 7, 8, 9, 16, 17, 56, 57, 58])
 (.rga (.op ⟨none, [(some 75, .mv (.t 9))]⟩ (.op ⟨none, [(some 76, .mv (.t 16))]⟩ (.op ⟨none, [(some 77, .mv (.t 9))]⟩ (.op ⟨none, [(some 78, .mv (.t 17))]⟩ (.op ⟨none, [(some 79, .mv (.t 9))]⟩ (.op ⟨none, [(some 80, .mv (.t 17))]⟩ (.op ⟨none, [(some 81, .idxS (.t 79) (.t 80) 8)]⟩ (.op ⟨none, [(some 83, .mv (.t 9))]⟩ (.op ⟨none, [(some 84, .mv (.t 16))]⟩ (.op ⟨none, [(some 85, .idxS (.t 83) (.t 84) 8)]⟩ (.or (.op ⟨none, [(some 82, .ld (.t 81) 8 true)]⟩ (.op ⟨none, [(some 86, .ld (.t 85) 8 true)]⟩ (.op ⟨none, [(some 87, .idxS (.t 75) (.t 76) 8)]⟩ (.op ⟨none, [(none, .st (.t 87) (.t 82) 8)]⟩ (.op ⟨none, [(some 88, .idxS (.t 77) (.t 78) 8)]⟩ (.op ⟨none, [(none, .st (.t 88) (.t 86) 8)]⟩ .done)))))) (.op ⟨none, [(some 86, .ld (.t 85) 8 true)]⟩ (.op ⟨none, [(some 82, .ld (.t 81) 8 true)]⟩ (.op ⟨none, [(some 87, .idxS (.t 75) (.t 76) 8)]⟩ (.op ⟨none, [(none, .st (.t 87) (.t 82) 8)]⟩ (.op ⟨none, [(some 88, .idxS (.t 77) (.t 78) 8)]⟩ (.op ⟨none, [(none, .st (.t 88) (.t 86) 8)]⟩ .done))))))))))))))))) [2, 7, 8, 9, 56, 57, 58]))
 .skip))))
 (.rg [⟨none, [(some 89, .bin .add (.t 58) (.c (.int .i64 1))), (some 58, .mv (.t 89))]⟩] [2, 7, 8, 9, 56, 57, 58]))))
def c_law13_OplogOrders_L2 : Cd :=
 (.seq (.seq (.rg [⟨none, [(some 94, .mv (.t 19)), (some 95, .mv (.t 9)), (some 96, .len (.t 95)), (some 97, .bin .lss (.t 94) (.t 96))]⟩] [7, 8, 9, 18, 19, 97])
 (.ite (.t 97)
 .skip
 (.exit 4)))
 (.seq (.block 5 (.seq (.rg [⟨none, [(some 102, .mv (.t 8)), (some 103, .mv (.t 9)), (some 104, .mv (.t 19)), (some 105, .mv (.t 9)), (some 106, .len (.t 105)), (some 107, .mv (.t 19)), (some 108, .mv (.t 18)), (some 109, .bin .add (.t 107) (.t 108)), (some 110, .mnx false (.t 106) (.t 109)), (some 111, .sl 8 (.t 103) (some (.t 104)) (some (.t 110))), (some 112, .call 14 [(.t 102), (.t 111)]), (some 101, .mv (.t 112)), (some 113, .ext (.t 101) 0), (some 114, .ext (.t 101) 1), (some 20, .mv (.t 113)), (some 21, .mv (.t 114))]⟩] [7, 8, 9, 18, 19, 21])
 (.seq (.rg [⟨none, [(some 115, .mv (.t 21)), (some 116, .bin .neq (.t 115) (.c (.int .i64 0)))]⟩] [7, 8, 9, 18, 19, 116])
 (.ite (.t 116)
 (.seq (.rg [⟨none, [(some 6, .mv (.c (.bool false)))]⟩] [6])
 .ret)
 .skip))))
 (.rg [⟨none, [(some 98, .mv (.t 19)), (some 99, .mv (.t 18)), (some 100, .bin .add (.t 98) (.t 99)), (some 19, .mv (.t 100))]⟩] [7, 8, 9, 18, 19])))
def c_law13_OplogOrders : Cd :=
 (.seq (.rg [⟨none, [(some 6, .mv (.c (.bool false)))]⟩] [0, 1, 2])
 (.seq (.rg [⟨none, [(some 24, .call 12 []), (some 25, .call 12 []), (some 7, .mv (.t 24)), (some 8, .mv (.t 25))]⟩] [0, 1, 2, 7, 8])
 (.seq (.seq (.rg [⟨none, [(some 26, .mv (.t 7)), (some 27, .eqA false 27 (.t 26) (.c (.pointer none))), (some 28, .mv (.t 27))]⟩, ⟨some (28, false), [(some 29, .mv (.t 8)), (some 30, .eqA false 27 (.t 29) (.c (.pointer none)))]⟩, ⟨none, [(some 31, .pick (.t 28) (.c (.bool true)) (.t 30)), (some 32, .mv (.t 31))]⟩, ⟨some (32, false), [(some 33, .call 13 []), (some 34, .un .not (.t 33))]⟩, ⟨none, [(some 35, .pick (.t 32) (.c (.bool true)) (.t 34))]⟩] [0, 1, 2, 7, 8, 35])
 (.ite (.t 35)
 (.seq (.rg [⟨none, [(some 6, .mv (.c (.bool false)))]⟩] [6])
 .ret)
 .skip))
 (.seq (.rg [⟨none, [(some 9, .mv (.c (.slice none 0 0)))]⟩] [0, 1, 2, 7, 8, 9])
 (.seq (.seq (.rg [⟨none, [(none, .gh), (some 36, .mv (.t 0)), (some 37, .len (.t 36)), (some 38, .mv (.c (.int .i64 0)))]⟩] [1, 2, 7, 8, 9, 36, 37, 38])
 (.block 0 (.loop c_law13_OplogOrders_L0)))
 (.seq (.seq (.rg [⟨none, [(some 56, .mv (.t 1)), (some 57, .len (.t 56)), (some 58, .mv (.c (.int .i64 0)))]⟩] [2, 7, 8, 9, 56, 57, 58])
 (.block 2 (.loop c_law13_OplogOrders_L1)))
 (.seq (.rg [⟨none, [(some 90, .mv (.t 2)), (some 91, .cvI .i64 (.t 90)), (some 92, .bin .rem (.t 91) (.c (.int .i64 4))), (some 93, .bin .add (.t 92) (.c (.int .i64 1))), (some 18, .mv (.t 93))]⟩] [7, 8, 9, 18])
 (.seq (.seq (.rg [⟨none, [(some 19, .mv (.c (.int .i64 0)))]⟩] [7, 8, 9, 18, 19])
 (.block 4 (.loop c_law13_OplogOrders_L2)))
 (.seq (.rg [⟨none, [(some 117, .mv (.t 7)), (some 118, .call 19 [(.t 117)]), (some 119, .mv (.t 8)), (some 120, .call 19 [(.t 119)]), (some 22, .mv (.t 118)), (some 23, .mv (.t 120))]⟩] [7, 8, 9, 22, 23])
 (.seq (.rg [⟨none, [(some 121, .mv (.t 22)), (some 122, .eqA true 40 (.t 121) (.c (.pointer none))), (some 123, .mv (.t 122))]⟩, ⟨some (123, true), [(some 124, .mv (.t 23)), (some 125, .eqA true 40 (.t 124) (.c (.pointer none)))]⟩, ⟨none, [(some 126, .pick (.t 123) (.t 125) (.c (.bool false))), (some 127, .mv (.t 126))]⟩, ⟨some (127, true), [(some 128, .mv (.t 22)), (some 129, .call 21 [(.t 128)]), (some 130, .mv (.t 23)), (some 131, .call 21 [(.t 130)]), (some 132, .call 20 [(.t 129), (.t 131)])]⟩, ⟨none, [(some 133, .pick (.t 127) (.t 132) (.c (.bool false))), (some 134, .mv (.t 133))]⟩, ⟨some (134, true), [(some 135, .mv (.t 7)), (some 136, .call 22 [(.t 135)]), (some 137, .mv (.t 9)), (some 138, .len (.t 137)), (some 139, .bin .eql (.t 136) (.t 138))]⟩, ⟨none, [(some 140, .pick (.t 134) (.t 139) (.c (.bool false))), (some 141, .mv (.t 140))]⟩, ⟨some (141, true), [(some 142, .mv (.t 8)), (some 143, .call 22 [(.t 142)]), (some 144, .mv (.t 9)), (some 145, .len (.t 144)), (some 146, .bin .eql (.t 143) (.t 145))]⟩, ⟨none, [(some 147, .pick (.t 141) (.t 146) (.c (.bool false))), (some 6, .mv (.t 147))]⟩] [6])
 .ret))))))))))
theorem k_law13_OplogOrders : Ok Tryz.prog 5 c_law13_OplogOrders 148 [(16, 10), (17, 999999)] [.tmp 6] := Ok.mk' Tryz.func5 (by kernel_rfl) (by kernel_rfl) (by kernel_rfl)

abbrev f_law13_OplogTree : Nat := 6
def c_law13_OplogTree_L0 : Cd :=
 (.seq (.rg [⟨none, [(some 42, .bin .lss (.t 41) (.t 40))]⟩] [3, 7, 23, 24, 25, 39, 40, 41, 42])
 (.seq (.ite (.t 42)
 .skip
 (.exit 2))
 (.seq (.block 3 (.seq (.rg [⟨none, [(some 43, .idxS (.t 39) (.t 41) 4), (some 44, .ld (.t 43) 4 true), (some 9, .new 49 (.c (.s (.int .i64 0)) (.c (.s (.int .i64 0)) (.c (.s (.string ⟨#[]⟩)) (.c (.s (.slice none 0 0)) .u))))), (none, .st (.t 9) (.t 44) 4)]⟩] [3, 7, 9, 23, 24, 25, 39, 40, 41])
 (.seq (.seq (.rg [⟨none, [(some 46, .mv (.t 7)), (some 47, .fldA (.t 9) 0 0), (some 48, .ld (.t 47) 1 false), (some 49, .mlk (some .i64) (.t 46) (.t 48) (.int .i64 0) true), (some 45, .mv (.t 49)), (some 50, .ext (.t 45) 0), (some 51, .ext (.t 45) 1), (some 10, .mv (.t 50)), (some 11, .mv (.t 51))]⟩] [3, 7, 9, 11, 23, 24, 25, 39, 40, 41])
 (.seq (.rg [⟨none, [(some 52, .mv (.t 11))]⟩] [3, 7, 9, 23, 24, 25, 39, 40, 41, 52])
 (.ite (.t 52)
 (.seq (.rg [⟨none, [(some 2, .mv (.c (.bool false)))]⟩] [2])
 .ret)
 .skip)))
 (.rg [⟨none, [(some 53, .mv (.t 7)), (some 54, .fldA (.t 9) 0 0), (some 55, .ld (.t 54) 1 false), (some 56, .fldA (.t 9) 1 1), (some 57, .ld (.t 56) 1 false), (none, .mup (some .i64) (.t 53) (.t 55) (.t 57))]⟩] [3, 7, 23, 24, 25, 39, 40, 41]))))
 (.rg [⟨none, [(some 58, .bin .add (.t 41) (.c (.int .i64 1))), (some 41, .mv (.t 58))]⟩] [3, 7, 23, 24, 25, 39, 40, 41]))))
def c_law13_OplogTree_L1 : Cd :=
 (.seq (.rg [⟨none, [(some 70, .bin .lss (.t 69) (.t 68))]⟩] [3, 7, 13, 23, 24, 25, 60, 68, 69, 70])
 (.seq (.ite (.t 70)
 .skip
 (.exit 6))
 (.seq (.block 7 (.seq (.seq (.rg [⟨none, [(some 71, .mv (.t 13)), (some 72, .bin .eql (.t 71) (.c (.int .i64 1))), (some 73, .mv (.t 72))]⟩, ⟨some (73, false), [(some 74, .mv (.t 13)), (some 75, .bin .eql (.t 74) (.c (.int .i64 2)))]⟩, ⟨none, [(some 76, .pick (.t 73) (.c (.bool true)) (.t 75))]⟩] [3, 7, 13, 23, 24, 25, 60, 68, 69, 76])
 (.ite (.t 76)
 (.exit 6)
 .skip))
 (.seq (.rg [⟨none, [(some 78, .mv (.t 7)), (some 79, .mv (.t 13)), (some 80, .mlk (some .i64) (.t 78) (.t 79) (.int .i64 0) true), (some 77, .mv (.t 80)), (some 81, .ext (.t 77) 0), (some 82, .ext (.t 77) 1), (some 14, .mv (.t 81)), (some 15, .mv (.t 82))]⟩] [3, 7, 14, 15, 23, 24, 25, 60, 68, 69])
 (.seq (.seq (.rg [⟨none, [(some 83, .mv (.t 15)), (some 84, .un .not (.t 83))]⟩] [3, 7, 14, 23, 24, 25, 60, 68, 69, 84])
 (.ite (.t 84)
 (.seq (.rg [⟨none, [(some 2, .mv (.c (.bool false)))]⟩] [2])
 .ret)
 .skip))
 (.rg [⟨none, [(some 85, .mv (.t 14)), (some 13, .mv (.t 85))]⟩] [3, 7, 13, 23, 24, 25, 60, 68, 69])))))
 (.rg [⟨none, [(some 86, .bin .add (.t 69) (.c (.int .i64 1))), (some 69, .mv (.t 86))]⟩] [3, 7, 13, 23, 24, 25, 60, 68, 69]))))
def c_law13_OplogTree_L2 : Cd :=
 (.seq (.rg [⟨none, [(some 61, .nxt (.t 60)), (some 62, .ext (.t 61) 0)]⟩] [3, 7, 23, 24, 25, 60, 62])
 (.seq (.ite (.t 62)
 .skip
 (.exit 4))
 (.block 5 (.seq (.rg [⟨none, [(some 63, .ent (.t 60)), (some 64, .ext (.t 63) 0), (some 12, .mv (.t 64))]⟩] [3, 7, 12, 23, 24, 25, 60])
 (.seq (.rg [⟨none, [(some 65, .mv (.t 12)), (some 13, .mv (.t 65))]⟩] [3, 7, 13, 23, 24, 25, 60])
 (.seq (.seq (.rg [⟨none, [(some 66, .mv (.t 7)), (some 67, .mln (some .i64) (.t 66)), (some 68, .bin .add (.t 67) (.c (.int .i64 1))), (some 69, .mv (.c (.int .i64 0)))]⟩] [3, 7, 13, 23, 24, 25, 60, 68, 69])
 (.block 6 (.loop c_law13_OplogTree_L1)))
 (.seq (.rg [⟨none, [(some 87, .mv (.t 13)), (some 88, .bin .neq (.t 87) (.c (.int .i64 1))), (some 89, .mv (.t 88))]⟩, ⟨some (89, true), [(some 90, .mv (.t 13)), (some 91, .bin .neq (.t 90) (.c (.int .i64 2)))]⟩, ⟨none, [(some 92, .pick (.t 89) (.t 91) (.c (.bool false)))]⟩] [3, 7, 23, 24, 25, 60, 92])
 (.ite (.t 92)
 (.seq (.rg [⟨none, [(some 2, .mv (.c (.bool false)))]⟩] [2])
 .ret)
 .skip))))))))
def c_law13_OplogTree_L3 : Cd :=
 (.seq (.rg [⟨none, [(some 26, .bin .lss (.t 25) (.t 24))]⟩] [3, 23, 24, 25, 26])
 (.seq (.ite (.t 26)
 .skip
 (.exit 0))
 (.seq (.block 1 (.seq (.rg [⟨none, [(some 27, .idxS (.t 23) (.t 25) 8), (some 28, .ld (.t 27) 8 true), (some 5, .new 26 (.c (.c (.s (.int .i64 0)) (.c (.s (.int .i64 0)) .u)) (.c (.s (.int .i64 0)) (.c (.s (.int .i64 0)) (.c (.s (.int .i64 0)) (.c (.s (.string ⟨#[]⟩)) (.c (.s (.string ⟨#[]⟩)) (.c (.s (.string ⟨#[]⟩)) .u)))))))), (none, .st (.t 5) (.t 28) 8)]⟩] [3, 5, 23, 24, 25])
 (.seq (.rg [⟨none, [(some 29, .mv (.t 3)), (some 30, .ld (.t 5) 8 true), (some 31, .bldS 26 8 (.c (.c (.s (.int .i64 0)) (.c (.s (.int .i64 0)) .u)) (.c (.s (.int .i64 0)) (.c (.s (.int .i64 0)) (.c (.s (.int .i64 0)) (.c (.s (.string ⟨#[]⟩)) (.c (.s (.string ⟨#[]⟩)) (.c (.s (.string ⟨#[]⟩)) .u))))))) [(.t 30)]), (some 32, .call 14 [(.t 29), (.t 31)])]⟩] [3, 23, 24, 25])
 (.seq (.rg [⟨none, [(some 33, .mv (.t 3)), (some 34, .call 19 [(.t 33)]), (some 6, .mv (.t 34))]⟩] [3, 6, 23, 24, 25])
 (.seq (.seq (.rg [⟨none, [(some 35, .mv (.t 6)), (some 36, .eqA false 40 (.t 35) (.c (.pointer none)))]⟩] [3, 6, 23, 24, 25, 36])
 (.ite (.t 36)
 (.seq (.rg [⟨none, [(some 2, .mv (.c (.bool false)))]⟩] [2])
 .ret)
 .skip))
 (.seq (.rg [⟨none, [(some 37, .mkm), (some 7, .mv (.t 37))]⟩] [3, 6, 7, 23, 24, 25])
 (.seq (.seq (.rg [⟨none, [(some 38, .mv (.t 6)), (some 39, .call 21 [(.t 38)]), (none, .gh), (some 40, .len (.t 39)), (some 41, .mv (.c (.int .i64 0)))]⟩] [3, 7, 23, 24, 25, 39, 40, 41])
 (.block 2 (.loop c_law13_OplogTree_L0)))
 (.seq (.rg [⟨none, [(some 59, .mv (.t 7)), (some 60, .rng (some .i64) (.t 59))]⟩] [3, 7, 23, 24, 25, 60])
 (.block 4 (.loop c_law13_OplogTree_L2))))))))))
 (.gh (.rg [⟨none, [(some 93, .bin .add (.t 25) (.c (.int .i64 1))), (some 25, .mv (.t 93))]⟩] [3, 23, 24, 25])))))
def c_law13_OplogTree : Cd :=
 (.seq (.rg [⟨none, [(some 2, .mv (.c (.bool false)))]⟩] [0])
 (.seq (.rg [⟨none, [(some 16, .call 12 []), (some 3, .mv (.t 16))]⟩] [0, 3])
 (.seq (.seq (.rg [⟨none, [(some 17, .mv (.t 3)), (some 18, .eqA false 27 (.t 17) (.c (.pointer none))), (some 19, .mv (.t 18))]⟩, ⟨some (19, false), [(some 20, .call 13 []), (some 21, .un .not (.t 20))]⟩, ⟨none, [(some 22, .pick (.t 19) (.c (.bool true)) (.t 21))]⟩] [0, 3, 22])
 (.ite (.t 22)
 (.seq (.rg [⟨none, [(some 2, .mv (.c (.bool false)))]⟩] [2])
 .ret)
 .skip))
 (.seq (.seq (.rg [⟨none, [(some 23, .mv (.t 0)), (some 24, .len (.t 23)), (some 25, .mv (.c (.int .i64 0)))]⟩] [3, 23, 24, 25])
 (.block 0 (.loop c_law13_OplogTree_L3)))
 (.seq (.rg [⟨none, [(some 2, .mv (.c (.bool true)))]⟩] [2])
 .ret)))))
theorem k_law13_OplogTree : Ok Tryz.prog 6 c_law13_OplogTree 94 [] [.tmp 2] := Ok.mk' Tryz.func6 (by kernel_rfl) (by kernel_rfl) (by kernel_rfl)

end Go.Proofs.YtmjiojflncffeaaGreat.Vc

/- OplogOrders, the walk. -/
set_option linter.unusedVariables false
set_option linter.unusedSimpArgs false
set_option maxRecDepth 100000
namespace Go.Proofs.YtmjiojflncffeaaGreat.Vc
open Go Go.Proofs

/-- What was accepted. -/
def Goods (l : List Op) : Prop := ∀ op ∈ l, (OpIn op ∧ OpOk op) ∧ checkE op = 0
/-- A log that has these, in its order. -/
structure Way2 (b : Nat) (m : PH) (L Lb : Lay) (p : PL) (l : List Op) : Prop where
  M : LogM m b L Lb p
  good : p.good (ptr (L .mk)) 0 (tri p.ds.length)
  fr : p.fr = 0
  B : p.B = T0
  perm : (p.ds.map (·.op)).Perm l
theorem Way2.len {b : Nat} {m : PH} {L Lb : Lay} {p : PL} {l : List Op} (h : Way2 b m L Lb p l) : p.ds.length = l.length := by
  have := h.perm.length_eq
  simpa using this
theorem Way2.rising {b : Nat} {m : PH} {L Lb : Lay} {p : PL} {l : List Op} (h : Way2 b m L Lb p l) : Rising ((p.ds.map (·.op)).map Op.k) := by
  rw [List.map_map]; exact h.good.ris
theorem Way2.nod {b : Nat} {m : PH} {L Lb : Lay} {p : PL} {l : List Op} (h : Way2 b m L Lb p l) : (l.map Op.k).Nodup := by
  have h1 : ((p.ds.map (·.op)).map Op.k).Nodup := h.rising.imp fun h e => by rw [e] at h; exact ltK_irrefl _ h
  exact (h.perm.map _).nodup_iff.1 h1
/-- Two logs of the same operations have trees of one look. -/
theorem Way2.same {b b' : Nat} {m m' : PH} {L Lb L' Lb' : Lay} {p p' : PL} {l l' : List Op} (h : Way2 b m L Lb p l) (h' : Way2 b' m' L' Lb' p' l') (hl : l.Perm l') : p.T.view = p'.T.view := by
  have e : p.ds.map (·.op) = p'.ds.map (·.op) := Rising.uniq (h.perm.trans (hl.trans h'.perm.symm)) h.rising h'.rising
  rw [h.good.fl.view, h'.good.fl.view, e, h.B, h'.B]
theorem Way2.new {b : Nat} {m : PH} {L Lb : Lay} (h : LogM m b L Lb PL.new) : Way2 b m L Lb PL.new [] := ⟨h, (PL.new_good _).up (Nat.zero_le _), rfl, rfl, List.Perm.refl _⟩
/-- What comes, put to it. -/
theorem Way2.add {b : Nat} {m m1 : PH} {L Lb L' : Lay} {p p' : PL} {l ops : List Op} {n : Int} (h : Way2 b m L Lb p l) (hM : LogM m1 b L' Lb p') (hL : L' .mk = L .mk) (hg : p'.good (ptr (L .mk)) 0 (tri p'.ds.length)) (hA : Added p ops p' n) : Way2 b m1 L' Lb p' (l ++ ops) :=
  ⟨hM, by rw [hL]; exact hg, hA.fr.trans h.fr, hA.B.trans h.B, hA.perm.trans (h.perm.append_right _)⟩
theorem looked_one {ds : List Done} {fr : Int} {op : Op} (h : lookE ds fr [] [op] = 0) : checkE op = 0 := (looked h).check op (by simp)
/-- What is not there yet may be put there. -/
theorem Way2.may {b : Nat} {m : PH} {L Lb : Lay} {p : PL} {l ops : List Op} (h : Way2 b m L Lb p l) (ho : Goods ops) (hn : ((l ++ ops).map Op.k).Nodup) : lookE p.ds p.fr [] ops = 0 := by
  rw [List.map_append, List.nodup_append] at hn
  refine lookE_of ⟨fun op hop => (ho op hop).2, fun op hop => by rw [h.fr]; have := checkE_time (ho op hop).2; omega, fun op hop => ⟨fun hm => ?_, List.not_mem_nil⟩, hn.2.1⟩
  obtain ⟨d, hd, e⟩ := List.mem_map.1 hm
  have : d.op ∈ l := h.perm.mem_iff.1 (List.mem_map.2 ⟨d, hd, rfl⟩)
  exact hn.2.2 _ (List.mem_map.2 ⟨d.op, this, rfl⟩) _ (List.mem_map.2 ⟨op, hop, rfl⟩) e
theorem tm_nat (a n : Nat) : (a : Int).tmod (n : Int) = ((a % n : Nat) : Int) := rfl
theorem wrap_nat {a : Nat} (h : a < 9223372036854775808) : IntKind.i64.wrap (a : Int) = (a : Int) := wrap64 (by omega) (by omega)
theorem swap_perm {l : List Op} {i j : Nat} (hi : i < l.length) (hj : j < l.length) : ((l.set i (l.getD j zOp)).set j (l.getD i zOp)).Perm l := by
  have e1 : l.getD i zOp = l[i] := by rw [List.getD_eq_getElem?_getD, List.getElem?_eq_getElem hi]; rfl
  have e2 : l.getD j zOp = l[j] := by rw [List.getD_eq_getElem?_getD, List.getElem?_eq_getElem hj]; rfl
  rw [e1, e2]
  exact List.set_set_perm hi hj
theorem orders_spec (w : World) (v v2 : Value) (each : Int) (ops : List Op) (bs : List UInt8) (hb : ops.length ≤ 1048576) (hb2 : bs.length ≤ 1048576) (he : 0 ≤ each ∧ each < 256) (ho : ∀ op ∈ ops, OpIn op ∧ OpOk op) (h : SlR w.ph v 8 (ops.map gOp)) (h2 : SlR w.ph v2 1 (bs.map gb)) :
    Spec Tryz.prog f_law13_OplogOrders [v, v2, .int .u8 each] PH.no w fun rs _ => rs = [.s (.bool true)] := by
  refine spec_val k_law13_OplogOrders (Qf := fun rs => rs = [.s (.bool true)]) [.ro v 8 (gOp zOp) (ops.map gOp), .ro v2 1 (gb 0) (bs.map gb), .g (.s (.int .u8 each))] (by simp) (by simpa [AV.ok, u0_no, GV.ok, Value.oneCell'] using ⟨h, h2⟩) ?_
  simp (maxSteps := 2000000) only [c_law13_OplogOrders, vc_seq, vc_rg, thenQ_n, kKeep_eq, segs_nil, segs_n, ops_nil, ops_cons, vcOp, ev, look, put_mk, keep_mk, keepL, Value.oneCell', cond_true, Nat.reduceEqDiff, Nat.reduceAdd, ↓reduceIte, reduceCtorEq, Nat.zero_add, initF, initP, Int.reduceAdd, List.length_map]
  refine call_ownm rfl rfl (Q := fun rs m' => ∃ b L Lb, rs = [.s (ptr b)] ∧ LogM m' b L Lb PL.new) (fun w' vs hv hw _ _ => ?_) fun rs mA _ hq _ => ?_
  · obtain rfl := argsV_nil hv
    exact logNew_spec w'
  obtain ⟨bA, LA, LbA, rfl, hA⟩ := hq
  simp (maxSteps := 2000000) only [retS, uni_no_r, ops_cons, vcOp, put_mk, ptr]
  refine call_ownm rfl rfl (Q := fun rs m' => ∃ b L Lb, rs = [.s (ptr b)] ∧ LogM m' b L Lb PL.new) (fun w' vs hv hw _ _ => ?_) fun rs mB _ hq hdB => ?_
  · obtain rfl := argsV_nil hv
    exact logNew_spec w'
  obtain ⟨bB, LB, LbB, rfl, hB⟩ := hq
  have hdB : dis mB mA := hdB
  simp (maxSteps := 2000000) only [retS, vc_seq, vc_rg, thenQ_n, kKeep_eq, segs_nil, segs_n, ops_nil, ops_cons, vcOp, ev, look, put_mk, keep_mk, keepL, Value.oneCell', cond_true, Nat.reduceEqDiff, ↓reduceIte, reduceCtorEq, ptr]
  rw [uni_comm hdB]
  refine eq_of (eqLog bA) ?_
  simp (maxSteps := 2000000) only [segs_g, ops_nil, ops_cons, vcOp, ev, look, put_mk, Value.oneCell', cond_true, Nat.reduceEqDiff, ↓reduceIte, reduceCtorEq, ↓br_ff, Bool.bne_false]
  refine eq_of (eqLog bB) ?_
  simp (maxSteps := 2000000) only [segs_n, segs_g, ops_nil, ops_cons, vcOp, ev, look, put_mk, Value.oneCell', cond_true, Nat.reduceEqDiff, ↓reduceIte, ↓br_ff, ↓br_ft, Bool.bne_false]
  refine call_ism _ [.s (.bool true)] rfl rfl (fun w' vs hv _ _ hm => ?_) ?_
  · obtain rfl := argsV_nil hv
    exact live13_spec w'
  simp (maxSteps := 2000000) only [retS, vc_skip, vc_seq, vc_rg, vc_ite, thenQ_n, kKeep_eq, segs_nil, segs_n, ops_nil, ops_cons, vcOp, ev, look, put_mk, keep_mk, keepL, unV, Value.oneCell', cond_true, Nat.reduceEqDiff, ↓reduceIte, reduceCtorEq, Bool.not_true, ↓br_ft]
  refine gh_nil 9 9 26 8 (gOp zOp) rfl rfl ?_
  simp (maxSteps := 2000000) only [vc_block, thenQ_n, kKeep_eq, segs_nil, ops_nil, ops_cons, vcOp, ev, look, put_mk, keep_mk, keepL, Value.oneCell', cond_true, Nat.reduceEqDiff, ↓reduceIte, reduceCtorEq]
  refine vc_loop (ι := Nat × Lay × PL × PH × List Op) (fun x => ⟨[(1, .row 1 0 (bs.length)), (2, .g (.s (.int .u8 each))), (7, .g (.s (.pointer (some ⟨bA, 0, none⟩)))), (8, .g (.s (.pointer (some ⟨bB, 0, none⟩)))), (9, .row 9 0 (x.2.2.2.2.length)), (36, .row 0 0 (ops.length)), (37, .g (.s (.int .i64 (ops.length)))), (38, .g (.s (.int .i64 (x.1))))], [(0, .ro 8 (gOp zOp) (ops.map gOp)), (1, .ro 1 (gb 0) (bs.map gb)), (9, .row 26 8 (gOp zOp) (x.2.2.2.2.map gOp))], [], uni x.2.2.2.1 mB⟩)
    (fun x => x.1 ≤ ops.length ∧ Way2 bA x.2.2.2.1 x.2.1 LbA x.2.2.1 x.2.2.2.2 ∧ dis x.2.2.2.1 mB ∧ Goods x.2.2.2.2 ∧ x.2.2.2.2.length ≤ x.1) (fun x => ops.length - x.1) (0, LA, PL.new, mA, []) ⟨by simp, Way2.new hA, dis_comm hdB, fun op hop => by (cases hop), Nat.le_refl _⟩ (ge_of ?_ ?_ rfl rfl rfl) ?_
  · simp [frIn, look]
  · simp [pvIn, look]
  rintro ⟨i, L, p, m, l⟩ ⟨hi, hW, hd, hgo, hll⟩
  simp only at hi hW hd hgo hll
  generalize hQ : loopQ _ _ _ _ _ = Q
  simp (maxSteps := 2000000) only [c_law13_OplogOrders_L0, vc_skip, vc_exit, vc_seq, vc_block, vc_rg, vc_ite, thenQ_n, thenQ_e, kKeep_eq, segs_nil, segs_n, ops_nil, ops_cons, vcOp, ev, evL, gvL, look, updL, put_mk, put_mk0, keep_mk, keepL, rowE, rowD, binV, binC, Nat.reduceEqDiff, ↓reduceIte, reduceCtorEq, Nat.zero_add, Bool.and_true, Bool.true_and, true_and, and_true, Option.map_some, szAll, List.length_cons, List.length_nil, Int.toNat_natCast, decide_eq_true_eq, decide_eq_false_iff_not, br_t, getT_nil, setT_nil, gStamp_zero, gOp_sz, gOp_fits, gOp_same, gOp_zero, getD_gOp]
  refine ⟨fun hlt => ⟨⟨by omega, by omega⟩, ?_⟩, fun hge => ?_⟩
  · have hil : i < ops.length := by omega
    obtain ⟨op, hop⟩ : ∃ op, ops.getD i zOp = op := ⟨_, rfl⟩
    have hoo := ho op (hop ▸ getD_in hil zOp)
    rw [hop]
    have hpl := hW.len
    refine call_split m mB rfl rfl rfl hd (Q := StepQ bA L LbA p 0 [op]) (fun w' vs hv _ _ _ => ?_) fun rs m1 _ hq hd1 => ?_
    · obtain ⟨vs, rfl, _, hv⟩ := argsB_g hv
      obtain ⟨v', vs, rfl, hs, hv⟩ := argsB_row (z := 8) (xs := [gOp op]) rfl rfl hv
      obtain rfl := argsB_nil hv
      exact one_split hW.M hW.good (by omega) hoo hs
    by_cases hlk : lookE p.ds p.fr [] [op] = 0
    · obtain ⟨L', p', n, hL1, hL2, rfl, hM', hg', hAd⟩ := hq.2 hlk
      simp (maxSteps := 2000000) only [retS, List.getElem?_cons_succ, List.getElem?_cons_zero, List.length_map, vc_seq, vc_rg, vc_ite, thenQ_n, blockQ_n, kKeep_eq, segs_nil, segs_n, ops_nil, ops_cons, vcOp, ev, evL, gvL, look, updL, put_mk, keep_mk, keepL, rowE, binV, binC, Value.oneCell', cond_true, cond_false, Nat.reduceEqDiff, Nat.reduceBEq, ↓reduceIte, reduceCtorEq, Nat.zero_add, Bool.and_true, Bool.true_and, BEq.rfl, true_and, and_true, Option.map_some, szAll, List.length_cons, List.length_nil, kill, SV.mentions, ne_eq, not_false_eq_true, List.drop_zero, List.take_succ_cons, List.take_zero, ↓br_tt, getT_nil, List.length_map, gOp_sz, gOp_fits]
      refine ⟨by omega, ?_⟩
      subst hQ; simp only [loopQ_n]; refine ⟨(i + 1, L', p', m1, l ++ [op]), ?_, ?_, ge_of ?_ ?_ rfl rfl rfl⟩
      · refine ⟨by simp only; omega, hW.add hM' hL2 hg' hAd, hd1, fun x hx => ?_, by simp; omega⟩
        rcases List.mem_append.1 hx with hx | hx
        · exact hgo x hx
        · rw [List.mem_singleton.1 hx]; exact ⟨hoo, looked_one hlk⟩
      · simp only; omega
      · simp only [frIn, look, Nat.reduceEqDiff, ↓reduceIte, Nat.zero_add, Bool.and_true, Bool.true_and, true_and, and_true, List.length_cons, List.length_nil, List.length_append, List.length_cons, List.length_nil]
        rw [wrap_n (by omega)]
        try simp
      · simp only [pvIn, look, Nat.reduceEqDiff, ↓reduceIte, reduceCtorEq, Bool.and_true, and_true, List.map_cons, List.map_nil, List.map_append, List.map_cons, List.map_nil]
        try simp
    · obtain ⟨rfl, hM'⟩ := hq.1 hlk
      simp (maxSteps := 2000000) only [retS, List.getElem?_cons_succ, List.getElem?_cons_zero, beq_eq_false_iff_ne.2 hlk, vc_skip, vc_seq, vc_rg, vc_ite, thenQ_n, blockQ_n, kKeep_eq, segs_nil, segs_n, ops_nil, ops_cons, vcOp, ev, look, put_mk, keep_mk, keepL, binV, binC, Value.oneCell', cond_true, Nat.reduceEqDiff, ↓reduceIte, Bool.true_and, true_and, ↓br_ft]
      subst hQ; simp only [loopQ_n]; refine ⟨(i + 1, L, p, m1, l), ?_, ?_, ge_of ?_ ?_ rfl rfl rfl⟩
      · exact ⟨by simp only; omega, ⟨hM', hW.good, hW.fr, hW.B, hW.perm⟩, hd1, hgo, by simp only; omega⟩
      · simp only; omega
      · simp only [frIn, look, Nat.reduceEqDiff, ↓reduceIte, Bool.and_true, Bool.true_and, true_and, and_true]
        rw [wrap_n (by omega)]
        try simp
      · simp [pvIn, look]
  · subst hQ
    simp (maxSteps := 2000000) only [vc_seq, vc_block, vc_rg, thenQ_n, blockQ_e, kKeep_eq, loopQ_e, segs_nil, segs_n, ops_nil, ops_cons, vcOp, ev, look, put_mk, keep_mk, keepL, Value.oneCell', cond_true, Nat.reduceEqDiff, ↓reduceIte]
    have hnd := hW.nod
    refine vc_loop (ι := Nat × List Op) (fun x => ⟨[(2, .g (.s (.int .u8 each))), (7, .g (.s (.pointer (some ⟨bA, 0, none⟩)))), (8, .g (.s (.pointer (some ⟨bB, 0, none⟩)))), (9, .row 9 0 (x.2.length)), (56, .row 1 0 (bs.length)), (57, .g (.s (.int .i64 (bs.length)))), (58, .g (.s (.int .i64 (x.1))))], [(1, .ro 1 (gb 0) (bs.map gb)), (9, .row 26 8 (gOp zOp) (x.2.map gOp))], [], uni m mB⟩)
      (fun x => x.1 ≤ bs.length ∧ x.2.Perm l) (fun x => bs.length - x.1) (0, l) ⟨by simp, List.Perm.refl _⟩ (ge_of ?_ ?_ rfl rfl rfl) ?_
    · simp [frIn, look]
    · simp [pvIn, look]
    rintro ⟨j, l2⟩ ⟨hj, hp2⟩
    simp only at hj hp2
    have hl2 := hp2.length_eq
    generalize hQ : loopQ _ _ _ _ _ = Q
    obtain ⟨k, hk⟩ : ∃ k : Nat, k = (bs.getD j 0).toNat := ⟨_, rfl⟩
    have hk256 : k < 256 := by rw [hk]; exact UInt8.toNat_lt _
    have hgb : (bs.map gb).getD j (gb 0) = .s (.int .u8 (k : Int)) := by
      rw [List.getD_eq_getElem?_getD, List.getElem?_map, hk, List.getD_eq_getElem?_getD]
      cases bs[j]? <;> rfl
    simp (maxSteps := 2000000) only [c_law13_OplogOrders_L1, hgb, vc_skip, vc_exit, vc_seq, vc_block, vc_rg, vc_rgq, vc_rga, vc_ite, thenQ_n, thenQ_e, blockQ_n, kKeep_eq, segs_nil, segs_n, ops_nil, ops_cons, qsegs_nil, qsegs_n, qops_nil, qops_cons, ot_done, ot_op, ot_or, vcqOp, vcOp, isRd, ev, look, updL, put_mk, put_mk0, keep_mk, keepL, rowE, rowD, binV, binC, Value.oneCell', cond_true, Nat.reduceEqDiff, ↓reduceIte, Nat.zero_add, Bool.and_true, Bool.true_and, Bool.not_false, true_and, and_true, Int.toNat_natCast, decide_eq_true_eq, decide_eq_false_iff_not, ne_eq, br_t, getT_nil, setT_nil, fits_s, gOp_sz, gOp_fits, gOp_same, getD_gOp]
    refine ⟨fun hlt => ⟨⟨by omega, by omega⟩, ?_⟩, fun hge => ?_⟩
    · simp only [tm_nat, wrap_nat (show k < 9223372036854775808 by omega), Int.toNat_natCast]
      have next : ∀ l3 : List Op, l3.Perm l → ∀ {fr : List (Nat × SV)} {pv : List (Nat × PV)}, frIn fr [(2, .g (.s (.int .u8 each))), (7, .g (.s (.pointer (some ⟨bA, 0, none⟩)))), (8, .g (.s (.pointer (some ⟨bB, 0, none⟩)))), (9, .row 9 0 (l3.length)), (56, .row 1 0 (bs.length)), (57, .g (.s (.int .i64 (bs.length)))), (58, .g (.s (.int .i64 (IntKind.i64.wrap ((j : Int) + 1)))))] → pvIn pv [(1, .ro 1 (gb 0) (bs.map gb)), (9, .row 26 8 (gOp zOp) (l3.map gOp))] → Q .normal ⟨fr, pv, [], uni m mB⟩ := by
        intro l3 hp3 fr pv hfr hpv
        subst hQ
        simp only [loopQ_n]
        refine ⟨(j + 1, l3), ⟨by simp only; omega, hp3⟩, by simp only; omega, ge_of ?_ hpv rfl rfl rfl⟩
        rw [wrap_n (by omega)] at hfr
        exact hfr
      refine ⟨fun h1 => ?_, fun h1 => next l2 hp2 (by simp [frIn, look]) (by simp [pvIn, look])⟩
      have hi1 : j % l2.length < l2.length := Nat.mod_lt _ (by omega)
      have hi2 : k % l2.length < l2.length := Nat.mod_lt _ (by omega)
      have hsp := (swap_perm hi1 hi2).trans hp2
      simp only [← List.map_set, getD_gOp, gOp_same]
      refine ⟨by omega, by omega, ⟨by omega, by omega⟩, ⟨by omega, by omega⟩, ⟨⟨by omega, by omega⟩, ⟨by omega, by omega⟩, trivial, ?_⟩, ⟨by omega, by omega⟩, ⟨by omega, by omega⟩, trivial, ?_⟩
      all_goals exact next _ hsp (by simp [frIn, look]) (by simp [pvIn, look])
    · subst hQ
      simp (maxSteps := 2000000) only [vc_seq, vc_block, vc_rg, thenQ_n, blockQ_e, kKeep_eq, loopQ_e, segs_nil, segs_n, ops_nil, ops_cons, vcOp, ev, look, put_mk, keep_mk, keepL, binV, binC, Value.oneCell', cond_true, Nat.reduceEqDiff, ↓reduceIte, Bool.true_and, true_and, Int.reduceEq, ne_eq, not_false_eq_true]
      obtain ⟨e, rfl⟩ : ∃ e : Nat, each = (e : Int) := ⟨each.toNat, by omega⟩
      have hst : IntKind.i64.wrap ((IntKind.i64.wrap (e : Int)).tmod 4 + 1) = ((e % 4 + 1 : Nat) : Int) := by
        rw [wrap_nat (by omega), show (4 : Int) = ((4 : Nat) : Int) from rfl, tm_nat, wrap64 (by omega) (by omega)]; rfl
      rw [hst]
      generalize hse : e % 4 + 1 = se
      have hse2 : 1 ≤ se ∧ se ≤ 4 := by omega
      refine vc_loop (ι := Nat × Lay × PL × PH) (fun x => ⟨[(7, .g (.s (.pointer (some ⟨bA, 0, none⟩)))), (8, .g (.s (.pointer (some ⟨bB, 0, none⟩)))), (9, .row 9 0 (l2.length)), (18, .g (.s (.int .i64 (se)))), (19, .g (.s (.int .i64 (x.1))))], [(9, .row 26 8 (gOp zOp) (l2.map gOp))], [], uni m x.2.2.2⟩)
        (fun x => x.1 ≤ l2.length + 4 ∧ Way2 bB x.2.2.2 x.2.1 LbB x.2.2.1 (l2.take x.1) ∧ dis m x.2.2.2) (fun x => l2.length + 4 - x.1) (0, LB, PL.new, mB) ⟨by simp, Way2.new hB, hd⟩ (ge_of ?_ ?_ rfl rfl rfl) ?_
      · simp [frIn, look]
      · simp [pvIn, look]
      rintro ⟨t, L2, p2, m2⟩ ⟨ht, hW2, hd2⟩
      simp only at ht hW2 hd2
      generalize hQ : loopQ _ _ _ _ _ = Q
      simp (maxSteps := 2000000) only [c_law13_OplogOrders_L2, vc_skip, vc_exit, vc_seq, vc_block, vc_rg, vc_ite, thenQ_n, thenQ_e, kKeep_eq, segs_nil, segs_n, ops_nil, ops_cons, vcOp, ev, look, put_mk, keep_mk, keepL, rowE, bndN, binV, binC, cond_false, Nat.reduceEqDiff, ↓reduceIte, Nat.zero_add, Bool.true_and, true_and, Int.toNat_natCast, decide_eq_true_eq, decide_eq_false_iff_not, br_t]
      have hpl := hW2.len
      refine ⟨fun hlt => ?_, fun hge => ?_⟩
      · have hmin : (min (l2.length : Int) (IntKind.i64.wrap ((t : Int) + se))) = ((min l2.length (t + se) : Nat) : Int) := by
          rw [wrap64 (by omega) (by omega)]; omega
        rw [hmin, Int.toNat_natCast]
        have hcl : min l2.length (t + se) - t = min (l2.length - t) se := by omega
        rw [hcl]
        refine ⟨⟨by omega, by omega, by omega⟩, ?_⟩
        obtain ⟨ch, hch⟩ : ∃ ch, (l2.drop t).take se = ch := ⟨_, rfl⟩
        have hch2 : (l2.drop t).take (min (l2.length - t) se) = ch := by
          rw [← hch]
          rcases Nat.le_total se (l2.length - t) with h | h
          · rw [Nat.min_eq_right h]
          · rw [Nat.min_eq_left h, List.take_of_length_le (by simp), List.take_of_length_le (by simp; omega)]
        have htk : l2.take (t + se) = l2.take t ++ ch := by rw [List.take_add, hch]
        have hchl : ch.length = min (l2.length - t) se := by rw [← hch2, List.length_take, List.length_drop]; omega
        have hgc : Goods ch := fun op hop => hgo op (hp2.mem_iff.1 (List.mem_of_mem_drop (List.mem_of_mem_take (hch ▸ hop))))
        have hlt2 : (l2.take t).length ≤ l2.length := by rw [List.length_take]; omega
        have hnd2 : ((l2.take t ++ ch).map Op.k).Nodup := by
          rw [← htk]
          have : (l2.map Op.k).Nodup := (hp2.map _).nodup_iff.2 hnd
          exact this.sublist ((List.take_sublist _ _).map _)
        have hlk := hW2.may hgc hnd2
        refine call_split m2 m rfl rfl (uni_comm hd2) (dis_comm hd2) (Q := StepQ bB L2 LbB p2 0 ch) (fun w' vs hv _ _ _ => ?_) fun rs m3 _ hq hd3 => ?_
        · obtain ⟨vs, rfl, _, hv⟩ := argsB_g hv
          obtain ⟨v', vs, rfl, hs, hv⟩ := argsB_part (z := 8) (xs := l2.map gOp) rfl hv
          obtain rfl := argsB_nil hv
          rw [← List.map_drop, ← List.map_take, hch2] at hs
          exact step_spec w' m2 bB L2 LbB p2 hW2.M hW2.good v' ch (fun op hop => (hgc op hop).1) (by omega) hs (by omega) (by omega) (by omega)
        obtain ⟨L', p', n, hL1, hL2, rfl, hM', hg', hAd⟩ := hq.2 hlk
        rw [uni_comm hd3]
        simp (maxSteps := 2000000) only [retS, List.getElem?_cons_succ, List.getElem?_cons_zero, Int.reduceBNe, vc_skip, vc_seq, vc_rg, vc_ite, thenQ_n, blockQ_n, kKeep_eq, segs_nil, segs_n, ops_nil, ops_cons, vcOp, ev, look, put_mk, keep_mk, keepL, binV, binC, Value.oneCell', cond_true, Nat.reduceEqDiff, ↓reduceIte, Bool.true_and, true_and, ↓br_ft]
        subst hQ; simp only [loopQ_n]; refine ⟨(t + se, L', p', m3), ?_, ?_, ge_of ?_ ?_ rfl rfl rfl⟩
        · refine ⟨by simp only; omega, ?_, dis_comm hd3⟩
          simp only
          rw [htk]
          exact hW2.add hM' hL2 hg' hAd
        · simp only; omega
        · simp only [frIn, look, Nat.reduceEqDiff, ↓reduceIte, Bool.and_true, Bool.true_and, true_and, and_true]
          rw [wrap64 (by omega) (by omega)]
          try simp
        · simp [pvIn, look]
      · subst hQ
        have hW3 : Way2 bB m2 L2 LbB p2 l2 := by rw [List.take_of_length_le (by omega)] at hW2; exact hW2
        have hpl3 := hW3.len
        have hplA := hW.len
        have hview := hW.same hW3 hp2.symm
        have hqA : tri p.ds.length + 4 < 1099511627776 := by have := tri_le (n := p.ds.length) (by omega); omega
        have hqB : tri p2.ds.length + 4 < 1099511627776 := by have := tri_le (n := p2.ds.length) (by omega); omega
        simp (maxSteps := 2000000) only [vc_seq, vc_rg, thenQ_n, blockQ_e, loopQ_e, segs_n, ops_cons, vcOp, ev, look, put_mk, ↓reduceIte]
        refine call_ownm rfl rfl (Q := fun rs m' => ∃ L' T', rs = [.s (ptr (L' .t))] ∧ TM m' L' T' ∧ T'.ok (tri p.ds.length + 2) ∧ VGood T'.view ∧ T'.kidsOk ∧ T'.view = p.T.view) (fun w' vs hv _ _ hm => ?_) fun rs mX _ hq hdX => ?_
        · obtain ⟨vs, rfl, _, hv⟩ := argsV_g hv
          obtain rfl := argsV_nil hv
          exact logTree_spec (u := m) (fun b o h => hm b o (sub_uni_l _ _ b o h)) hW.M hW.good hqA
        obtain ⟨LX, TX, rfl, hTX, hokX, _, _, hvX⟩ := hq
        have hdX : dis mX (uni m m2) := hdX
        simp (maxSteps := 2000000) only [retS, ops_cons, vcOp, ev, look, put_mk, Nat.reduceEqDiff, ↓reduceIte, ptr]
        refine call_ownm rfl rfl (Q := fun rs m' => ∃ L' T', rs = [.s (ptr (L' .t))] ∧ TM m' L' T' ∧ T'.ok (tri p2.ds.length + 2) ∧ VGood T'.view ∧ T'.kidsOk ∧ T'.view = p2.T.view) (fun w' vs hv _ _ hm => ?_) fun rs mY _ hq hdY => ?_
        · obtain ⟨vs, rfl, _, hv⟩ := argsV_g hv
          obtain rfl := argsV_nil hv
          exact logTree_spec (u := m2) (fun b o h => hm b o (sub_uni_r hdX b o (sub_uni_r hd2 b o h))) hW3.M hW3.good hqB
        obtain ⟨LY, TY, rfl, hTY, hokY, _, _, hvY⟩ := hq
        have hdY : dis mY (uni mX (uni m m2)) := hdY
        simp (maxSteps := 2000000) only [retS, vc_seq, vc_rg, thenQ_n, kKeep_eq, segs_nil, segs_n, ops_nil, ops_cons, vcOp, ev, look, put_mk, keep_mk, keepL, Value.oneCell', cond_true, Nat.reduceEqDiff, ↓reduceIte, ptr]
        refine eq_of (eqTree _) ?_
        simp (maxSteps := 2000000) only [segs_g, ops_nil, ops_cons, vcOp, ev, look, put_mk, Value.oneCell', cond_true, Nat.reduceEqDiff, ↓reduceIte, Bool.not_false, ↓br_tt, Bool.bne_true]
        refine eq_of (eqTree _) ?_
        simp (maxSteps := 2000000) only [segs_n, segs_g, ops_nil, ops_cons, vcOp, ev, look, put_mk, Value.oneCell', cond_true, Nat.reduceEqDiff, ↓reduceIte, Bool.not_false, ↓br_tt, Bool.bne_true]
        have htold := (told_eq hokX hokY (hvX.trans (hview.trans hvY.symm))).1
        have sX : PH.sub mX (uni mY (uni mX (uni m m2))) := PH.sub_trans (sub_uni_l _ _) (sub_uni_r hdY)
        have sY : PH.sub mY (uni mY (uni mX (uni m m2))) := sub_uni_l _ _
        have sA : PH.sub m (uni mY (uni mX (uni m m2))) := PH.sub_trans (PH.sub_trans (sub_uni_l _ _) (sub_uni_r hdX)) (sub_uni_r hdY)
        have sB : PH.sub m2 (uni mY (uni mX (uni m m2))) := PH.sub_trans (PH.sub_trans (sub_uni_r hd2) (sub_uni_r hdX)) (sub_uni_r hdY)
        refine call_frzm rfl rfl (Q := fun rs m' => ∃ v ts, rs = [.s v] ∧ SlR m' v 4 (ts.map gTreeNode) ∧ TsOk m' ts (nodesTold TX)) (fun w' vs hv _ _ hm => ?_) fun rs m5 _ hq => ?_
        · obtain ⟨vs, rfl, _, hv⟩ := argsV_g hv
          obtain rfl := argsV_nil hv
          exact nodesT (fun b o h => hm b o (sX b o h)) hTX hokX (by omega)
        obtain ⟨vx, tx, rfl, hsx, htx⟩ := hq
        simp (maxSteps := 2000000) only [retS, ops_cons, vcOp, ev, look, put_mk, Nat.reduceEqDiff, ↓reduceIte]
        refine call_frzm rfl rfl (Q := fun rs m' => ∃ v ts, rs = [.s v] ∧ SlR m' v 4 (ts.map gTreeNode) ∧ TsOk m' ts (nodesTold TY)) (fun w' vs hv _ _ hm => ?_) fun rs m6 _ hq => ?_
        · obtain ⟨vs, rfl, _, hv⟩ := argsV_g hv
          obtain rfl := argsV_nil hv
          exact nodesT (fun b o h => hm b o (sY b o h)) hTY hokY (by omega)
        obtain ⟨vy, ty, rfl, hsy, hty⟩ := hq
        simp (maxSteps := 2000000) only [retS, ops_cons, vcOp, put_mk]
        have hlx := nodesTold_len TX
        have hly := nodesTold_len TY
        have hmx := hokX.many
        have hmy := hokY.many
        refine call_ism _ [.s (.bool true)] rfl rfl (fun w' vs hv _ hph _ => ?_) ?_
        · obtain ⟨vs, rfl, _, hv⟩ := argsV_g hv
          obtain ⟨vs, rfl, _, hv⟩ := argsV_g hv
          obtain rfl := argsV_nil hv
          have s1 : PH.sub m5 w'.ph := hph m5 (by simp)
          have s2 : PH.sub m6 w'.ph := hph m6 (by simp)
          have := rSame_spec w' vx vy tx ty _ _ w'.ph (fun _ _ h => h) (hsx.up s1) (hsy.up s2) (htx.up s1) (hty.up s2) (by rw [htx.len]; omega) (fun t ht => by have := nodesTold_few hokX ht; omega)
          rw [decide_eq_true htold] at this
          exact this
        simp (maxSteps := 2000000) only [retS, segs_n, segs_g, ops_nil, ops_cons, vcOp, ev, look, put_mk, Value.oneCell', cond_true, Nat.reduceEqDiff, ↓reduceIte, ↓br_tt]
        refine call_ism _ [.s (.int .i64 p.ds.length)] rfl rfl (fun w' vs hv _ _ hm => ?_) ?_
        · obtain ⟨vs, rfl, _, hv⟩ := argsV_g hv
          obtain rfl := argsV_nil hv
          exact logLen_spec (fun b o h => hm b o (sA b o h)) hW.M
        simp (maxSteps := 2000000) only [retS, hplA, hl2, beq_self_eq_true, segs_n, segs_g, ops_nil, ops_cons, vcOp, ev, look, put_mk, binV, binC, Value.oneCell', cond_true, Nat.reduceEqDiff, ↓reduceIte, Bool.true_and, true_and, ↓br_tt]
        refine call_ism _ [.s (.int .i64 p2.ds.length)] rfl rfl (fun w' vs hv _ _ hm => ?_) ?_
        · obtain ⟨vs, rfl, _, hv⟩ := argsV_g hv
          obtain rfl := argsV_nil hv
          exact logLen_spec (fun b o h => hm b o (sB b o h)) hW3.M
        simp (maxSteps := 2000000) only [retS, hpl3, hl2, beq_self_eq_true, vc_ret, thenQ_n, kKeep_eq, segs_nil, segs_n, ops_nil, ops_cons, vcOp, ev, look, put_mk, keep_mk, keepL, binV, binC, Value.oneCell', cond_true, Nat.reduceEqDiff, ↓reduceIte, Bool.and_true, and_true, finW_r, resL, resOne, ↓br_tt]
end Go.Proofs.YtmjiojflncffeaaGreat.Vc

/- OplogTree, the walk. -/
set_option linter.unusedVariables false
set_option linter.unusedSimpArgs false
set_option maxRecDepth 100000
namespace Go.Proofs.YtmjiojflncffeaaGreat.Vc
open Go Go.Proofs

/-- Nodes' parents, by number. -/
def rawP (l : List TN) : List (Value × Value) := l.map fun t => (.int .i64 t.node, .int .i64 t.parent)
def lookP : List TN → Int → Option Int
  | [], _ => none
  | t :: l, n => if t.node = n then some t.parent else lookP l n
theorem mget_rawP : ∀ (l : List TN) (n : Int), mget (rawP l) (.int .i64 n) = (lookP l n).map fun p => .int .i64 p
  | [], n => rfl
  | t :: l, n => by
    have ih := mget_rawP l n
    by_cases h : t.node = n
    · subst h; simp [rawP, mget, keq, lookP]
    · have : keq (.int .i64 t.node) (.int .i64 n) = false := by simp [keq, h]
      simp only [rawP, List.map_cons, mget, this, cond_false, lookP, h, if_false]
      exact ih
theorem mput_rawP (v : Value) : ∀ (l : List TN) (n : Int), lookP l n = none → mput (rawP l) (.int .i64 n) v = rawP l ++ [(.int .i64 n, v)]
  | [], n, _ => rfl
  | t :: l, n, h => by
    by_cases hk : t.node = n
    · simp [lookP, hk] at h
    · have hq : keq (.int .i64 t.node) (.int .i64 n) = false := by simp [keq, hk]
      simp only [lookP, hk, if_false] at h
      have ih := mput_rawP v l n h
      simp only [rawP, List.map_cons, mput, hq, cond_false, List.cons_append] at ih ⊢
      rw [ih]
theorem lookP_none {l : List TN} {n : Int} (h : ∀ t ∈ l, t.node ≠ n) : lookP l n = none := by
  induction l with
  | nil => rfl
  | cons t l ih =>
    rw [lookP, if_neg (h t (by simp))]
    exact ih fun x hx => h x (List.mem_cons_of_mem _ hx)
theorem lookP_of : ∀ {l : List TN} {t : TN}, l.Pairwise (fun a b => a.node < b.node) → t ∈ l → lookP l t.node = some t.parent
  | [], _, _, h => by cases h
  | x :: l, t, hp, h => by
    obtain ⟨h1, h2⟩ := List.pairwise_cons.1 hp
    rcases List.mem_cons.1 h with rfl | h
    · simp [lookP]
    · have := h1 t h
      rw [lookP, if_neg (by omega)]
      exact lookP_of h2 h
theorem told_rising {T : PT} {k : Nat} (h : T.ok k) : (nodesTold T).Pairwise (fun a b => a.node < b.node) := toldL_sorted (nodesK_sorted h.nod)
/-- Each node but a top is told, with its parent. -/
theorem told_look {T : PT} {k : Nat} (h : T.ok k) {n : Int} {a : AN} (ha : T.view n = some a) (ht : topB n = false) : lookP (nodesTold T) n = some a.parent := by
  obtain ⟨x, hx, rfl⟩ := get_of_view ha
  have hm : toldOf n x ∈ nodesTold T := (mem_told hx).2 (by simp [TN.shown, toldOf, ht])
  exact lookP_of (told_rising h) hm
/-- As many steps as there are nodes that are told, at most. -/
theorem led_told {T : PT} {q : Nat} (h : T.ok q) {k : Nat} {n : Int} (hl : LeadsN T.view k n) : k ≤ (nodesTold T).length := by
  have way : ∀ {k : Nat} {n : Int}, LeadsN T.view k n → ∃ l : List Int, l.length = k ∧ l.Nodup ∧ (∀ m ∈ l, topB m = false ∧ T.view m ≠ none) ∧ ∀ m ∈ l, ∃ j, j ≤ k ∧ LeadsN T.view j m := by
    intro k
    induction k with
    | zero => exact fun _ => ⟨[], rfl, List.nodup_nil, fun m hm => (by cases hm), fun m hm => (by cases hm)⟩
    | succ k ih =>
      intro n hn
      obtain ⟨ht, a, h1, h2⟩ := hn
      obtain ⟨l, e1, e2, e3, e4⟩ := ih h2
      refine ⟨n :: l, by simp [e1], List.nodup_cons.2 ⟨fun hm => ?_, e2⟩, fun m hm => ?_, fun m hm => ?_⟩
      · obtain ⟨j, hj, h3⟩ := e4 n hm
        have := h3.uniq (show LeadsN T.view (k + 1) n from ⟨ht, a, h1, h2⟩)
        omega
      · rcases List.mem_cons.1 hm with rfl | hm
        · exact ⟨ht, by rw [h1]; simp⟩
        · exact e3 m hm
      · rcases List.mem_cons.1 hm with rfl | hm
        · exact ⟨k + 1, Nat.le_refl _, ht, a, h1, h2⟩
        · obtain ⟨j, hj, h3⟩ := e4 m hm
          exact ⟨j, by omega, h3⟩
  obtain ⟨l, e1, e2, e3, _⟩ := way hl
  have := nodup_len (b := (nodesTold T).map (·.node)) e2 fun m hm => by
    obtain ⟨h1, h2⟩ := e3 m hm
    cases hv : T.view m with
    | none => exact absurd hv h2
    | some a =>
      obtain ⟨x, hx, rfl⟩ := get_of_view hv
      exact List.mem_map.2 ⟨toldOf m x, (mem_told hx).2 (by simp [TN.shown, toldOf, h1]), rfl⟩
  simpa [e1] using this
theorem dis_one {b : Nat} {o : Obj} {x : PH} (h : dis (one b o) x) (o' : Obj) : dis (one b o') x := fun k => by
  rcases h k with h | h
  · simp only [one] at h ⊢
    split at h
    · cases h
    · rename_i hk; left; rw [if_neg hk]
  · exact .inr h
theorem topB_e {n : Int} : topB n = true ↔ n = 1 ∨ n = 2 := topB_iff
theorem tree13_spec (w : World) (v : Value) (ops : List Op) (hb : ops.length ≤ 1048576) (ho : ∀ op ∈ ops, OpIn op ∧ OpOk op) (h : SlR w.ph v 8 (ops.map gOp)) :
    Spec Tryz.prog f_law13_OplogTree [v] PH.no w fun rs _ => rs = [.s (.bool true)] := by
  refine spec_val k_law13_OplogTree (Qf := fun rs => rs = [.s (.bool true)]) [.ro v 8 (gOp zOp) (ops.map gOp)] (by simp) (by simpa [AV.ok, u0_no] using h) ?_
  simp (maxSteps := 2000000) only [c_law13_OplogTree, vc_seq, vc_rg, thenQ_n, kKeep_eq, segs_nil, segs_n, ops_nil, ops_cons, vcOp, ev, look, put_mk, keep_mk, keepL, Value.oneCell', cond_true, ↓reduceIte, reduceCtorEq, initF, initP, List.length_map]
  refine call_ownm rfl rfl (Q := fun rs m' => ∃ b L Lb, rs = [.s (ptr b)] ∧ LogM m' b L Lb PL.new) (fun w' vs hv hw _ _ => ?_) fun rs m0 _ hq _ => ?_
  · obtain rfl := argsV_nil hv
    exact logNew_spec w'
  obtain ⟨b, L0, Lb, rfl, hL⟩ := hq
  simp (maxSteps := 2000000) only [retS, uni_no_r, vc_seq, vc_rg, thenQ_n, kKeep_eq, segs_nil, segs_n, ops_nil, ops_cons, vcOp, ev, look, put_mk, keep_mk, keepL, Value.oneCell', cond_true, ↓reduceIte, reduceCtorEq, ptr]
  refine eq_of (eqLog b) ?_
  simp (maxSteps := 2000000) only [segs_g, ops_nil, ops_cons, vcOp, ev, look, put_mk, ↓reduceIte, ↓br_ff, Bool.bne_false]
  refine call_ism _ [.s (.bool true)] rfl rfl (fun w' vs hv _ _ hm => ?_) ?_
  · obtain rfl := argsV_nil hv
    exact live13_spec w'
  simp (maxSteps := 2000000) only [retS, vc_skip, vc_seq, vc_block, vc_rg, vc_ite, thenQ_n, kKeep_eq, segs_nil, segs_n, ops_nil, ops_cons, vcOp, ev, look, put_mk, keep_mk, keepL, unV, Value.oneCell', cond_true, Nat.reduceEqDiff, ↓reduceIte, reduceCtorEq, Bool.not_true, ↓br_ft]
  refine vc_loop (ι := Nat × Lay × PL × PH × List PH × List Op) (fun x => ⟨[(3, .g (.s (.pointer (some ⟨b, 0, none⟩)))), (23, .row 0 0 (ops.length)), (24, .g (.s (.int .i64 (ops.length)))), (25, .g (.s (.int .i64 (x.1))))], [(0, .ro 8 (gOp zOp) (ops.map gOp))], x.2.2.2.2.1, x.2.2.2.1⟩)
    (fun x => x.1 ≤ ops.length ∧ Way2 b x.2.2.2.1 x.2.1 Lb x.2.2.1 x.2.2.2.2.2 ∧ x.2.2.2.2.2.length ≤ x.1) (fun x => ops.length - x.1) (0, L0, PL.new, m0, [], []) ⟨by simp, Way2.new hL, Nat.le_refl _⟩ (ge_of ?_ ?_ rfl rfl rfl) ?_
  · simp [frIn, look]
  · simp [pvIn, look]
  rintro ⟨i, L, p, m, phs, l⟩ ⟨hi, hW, hll⟩
  simp only at hi hW hll
  generalize hQ : loopQ _ _ _ _ _ = Q
  simp (maxSteps := 2000000) only [c_law13_OplogTree_L3, vc_skip, vc_exit, vc_seq, vc_block, vc_rg, vc_ite, thenQ_n, thenQ_e, kKeep_eq, segs_nil, segs_n, ops_nil, ops_cons, vcOp, ev, evL, gvL, look, updL, put_mk, put_mk0, keep_mk, keepL, rowE, rowD, binV, binC, Nat.reduceEqDiff, ↓reduceIte, reduceCtorEq, Nat.zero_add, Bool.and_true, Bool.true_and, true_and, and_true, Option.map_some, szAll, List.length_cons, List.length_nil, Int.toNat_natCast, decide_eq_true_eq, decide_eq_false_iff_not, br_t, getT_nil, setT_nil, gStamp_zero, gOp_sz, gOp_fits, gOp_same, gOp_zero, getD_gOp]
  refine ⟨fun hlt => ⟨⟨by omega, by omega⟩, ?_⟩, fun hge => ?_⟩
  case refine_2 =>
    subst hQ
    simp (maxSteps := 2000000) only [vc_ret, vc_seq, vc_rg, thenQ_n, blockQ_e, kKeep_eq, loopQ_e, segs_nil, segs_n, ops_nil, ops_cons, vcOp, ev, look, put_mk, keep_mk, keepL, Value.oneCell', cond_true, ↓reduceIte, finW_r, resL, resOne]
  have hil : i < ops.length := by omega
  obtain ⟨op, hop⟩ : ∃ op, ops.getD i zOp = op := ⟨_, rfl⟩
  have hoo := ho op (hop ▸ getD_in hil zOp)
  rw [hop]
  have hpl := hW.len
  refine call_split m PH.no rfl rfl (uni_no_r _).symm (dis_no_r _) (Q := fun rs m' => (∃ n e, rs = [n, e]) ∧ ∃ L' p' l', Way2 b m' L' Lb p' l' ∧ l'.length ≤ i + 1) (fun w' vs hv _ _ _ => ?_) fun rs m1 _ hq _ => ?_
  · obtain ⟨vs, rfl, _, hv⟩ := argsB_g hv
    obtain ⟨v', vs, rfl, hs, hv⟩ := argsB_row (z := 8) (xs := [gOp op]) rfl rfl hv
    obtain rfl := argsB_nil hv
    refine (one_split hW.M hW.good (by omega) hoo hs).mono fun rs m' hq => ?_
    by_cases hlk : lookE p.ds p.fr [] [op] = 0
    · obtain ⟨L', p', n, hL1, hL2, rfl, hM', hg', hAd⟩ := hq.2 hlk
      exact ⟨⟨_, _, rfl⟩, L', p', _, hW.add hM' hL2 hg' hAd, by simp; omega⟩
    · obtain ⟨rfl, hM'⟩ := hq.1 hlk
      exact ⟨⟨_, _, rfl⟩, L, p, l, ⟨hM', hW.good, hW.fr, hW.B, hW.perm⟩, by omega⟩
  obtain ⟨⟨rn, re, rfl⟩, L1, p1, l1, hW1, hl1⟩ := hq
  have hpl1 := hW1.len
  have hqA : tri p1.ds.length + 4 < 1099511627776 := by have := tri_le (n := p1.ds.length) (by omega); omega
  simp (maxSteps := 2000000) only [retS, uni_no_r, vc_seq, vc_rg, thenQ_n, kKeep_eq, segs_nil, segs_n, ops_nil, ops_cons, vcOp, ev, look, put_mk, keep_mk, keepL, Nat.reduceEqDiff, ↓reduceIte]
  refine call_ownm rfl rfl (Q := fun rs m' => ∃ L' T', rs = [.s (ptr (L' .t))] ∧ TM m' L' T' ∧ T'.ok (tri p1.ds.length + 2) ∧ VGood T'.view ∧ T'.kidsOk ∧ T'.view = p1.T.view) (fun w' vs hv _ _ hm => ?_) fun rs mX _ hq hdX => ?_
  · obtain ⟨vs, rfl, _, hv⟩ := argsV_g hv
    obtain rfl := argsV_nil hv
    exact logTree_spec hm hW1.M hW1.good hqA
  obtain ⟨LX, TX, rfl, hTX, hokX, hgX, _, hvX⟩ := hq
  have hdX : dis mX m1 := hdX
  simp (maxSteps := 2000000) only [retS, vc_seq, vc_rg, thenQ_n, kKeep_eq, segs_nil, segs_n, ops_nil, ops_cons, vcOp, ev, look, put_mk, keep_mk, keepL, Value.oneCell', cond_true, Nat.reduceEqDiff, ↓reduceIte, ptr]
  refine eq_of (eqTree _) ?_
  simp (maxSteps := 2000000) only [vc_skip, vc_seq, vc_rg, vc_ite, thenQ_n, kKeep_eq, segs_nil, segs_n, ops_nil, ops_cons, vcOp, ev, look, put_mk, keep_mk, keepL, Nat.reduceEqDiff, ↓reduceIte, ↓br_ft, Bool.bne_false]
  intro bm om hom hdm
  have hdm : dis (one bm om) (uni mX m1) := hdm
  simp (maxSteps := 2000000) only [vc_seq, vc_rg, thenQ_n, kKeep_eq, segs_nil, segs_n, ops_nil, ops_cons, vcOp, ev, look, put_mk, keep_mk, keepL, Nat.reduceEqDiff, ↓reduceIte]
  refine call_frzm rfl rfl (Q := fun rs m' => ∃ v ts, rs = [.s v] ∧ SlR m' v 4 (ts.map gTreeNode) ∧ TsOk m' ts (nodesTold TX)) (fun w' vs hv _ _ hm => ?_) fun rs m5 _ hq => ?_
  · obtain ⟨vs, rfl, _, hv⟩ := argsV_g hv
    obtain rfl := argsV_nil hv
    exact nodesT (fun b o h => hm b o (sub_uni_r hdm b o (sub_uni_l _ _ b o h))) hTX hokX (by omega)
  obtain ⟨vx, tx, rfl, hsx, htx⟩ := hq
  simp (maxSteps := 2000000) only [retS, ops_cons, vcOp, put_mk]
  refine gh_rk 39 39 (gTreeNode zTreeNode) rfl rfl hsx (KN.mem (by simp)) ?_
  simp (maxSteps := 2000000) only [vc_block, thenQ_n, kKeep_eq, segs_nil, ops_nil, ops_cons, vcOp, ev, look, put_mk, keep_mk, keepL, Value.oneCell', cond_true, Nat.reduceEqDiff, ↓reduceIte, List.length_map]
  have htl := htx.len
  have hris := told_rising hokX
  have hfew : (nodesTold TX).length ≤ tri p1.ds.length + 4 := Nat.le_trans (nodesTold_len TX) hokX.many
  have hdm2 : ∀ o, dis (one bm o) (uni mX m1) := fun o => dis_one hdm o
  generalize hl0 : nodesTold TX = told at *
  refine vc_loop (ι := Nat × Obj) (fun x => ⟨[(3, .g (.s (.pointer (some ⟨b, 0, none⟩)))), (7, .g (.s (.map (some bm)))), (23, .row 0 0 (ops.length)), (24, .g (.s (.int .i64 (ops.length)))), (25, .g (.s (.int .i64 (i)))), (39, .row 39 0 (tx.length)), (40, .g (.s (.int .i64 (tx.length)))), (41, .g (.s (.int .i64 (x.1))))], [(0, .ro 8 (gOp zOp) (ops.map gOp)), (39, .ro 4 (gTreeNode zTreeNode) (tx.map gTreeNode))], m5 :: phs, uni (one bm x.2) (uni mX m1)⟩)
    (fun x => x.1 ≤ told.length ∧ MapI (some .i64) x.2 (rawP (told.take x.1))) (fun x => told.length - x.1) (0, om) ⟨by simp, hom _⟩ (ge_of ?_ ?_ rfl rfl rfl) ?_
  · simp [frIn, look]
  · simp [pvIn, look]
  rintro ⟨j, o⟩ ⟨hj, hmo⟩
  simp only at hj hmo
  generalize hQ : loopQ _ _ _ _ _ = Q
  simp (maxSteps := 2000000) only [c_law13_OplogTree_L0, vc_skip, vc_exit, vc_seq, vc_block, vc_rg, vc_ite, thenQ_n, thenQ_e, kKeep_eq, segs_nil, segs_n, ops_nil, ops_cons, vcOp, ev, look, updL, put_mk, put_mk0, keep_mk, keepL, rowE, rowD, binV, binC, GV.getT, Nat.reduceEqDiff, ↓reduceIte, reduceCtorEq, List.nil_append, Nat.zero_add, Bool.and_true, Bool.true_and, Bool.not_false, true_and, and_true, Int.toNat_natCast, decide_eq_true_eq, decide_eq_false_iff_not, br_t, getT_nil, setT_nil, fits_s, gTreeNode_sz, gTreeNode_fits, gTreeNode_same, gTreeNode_fld0, gTreeNode_get0, gTreeNode_zero, getD_gTreeNode]
  have hob : ∀ o, uni (one bm o) (uni mX m1) bm = some o := fun o => sub_uni_l _ _ _ _ (one_self _ _)
  refine ⟨fun hjl => ⟨⟨by omega, by omega⟩, ?_⟩, fun hjl => ?_⟩
  · have hjt : j < told.length := by omega
    obtain ⟨t, ht⟩ : ∃ t, told.getD j zTN = t := ⟨_, rfl⟩
    obtain ⟨e1, e2, _, _⟩ := htx.at j (by omega)
    rw [ht] at e1 e2
    have hfresh : lookP (told.take j) t.node = none := lookP_none fun x hx hxe => by
      obtain ⟨k, hk, rfl⟩ := List.mem_take_iff_getElem.1 hx
      have := List.pairwise_iff_getElem.1 hris k j (by omega) hjt (by omega)
      have e3 : t = told[j] := by rw [← ht, List.getD_eq_getElem?_getD, List.getElem?_eq_getElem hjt]; rfl
      rw [e3] at hxe
      omega
    rw [e1]
    refine ⟨o, _, .inl (hob o), hmo, rfl, ?_⟩
    simp (maxSteps := 2000000) only [lkS, mget_rawP, hfresh, Option.map_none, Option.isSome_none, Option.getD_none, List.getElem?_cons_succ, List.getElem?_cons_zero, vc_skip, vc_seq, vc_rg, vc_ite, thenQ_n, kKeep_eq, segs_nil, segs_n, ops_nil, ops_cons, vcOp, ev, look, put_mk, keep_mk, keepL, GV.getT, cond_true, Nat.reduceEqDiff, ↓reduceIte, reduceCtorEq, List.nil_append, Bool.true_and, Bool.not_false, true_and, ↓br_ft, getT_nil, fits_s, gTreeNode_fld0, gTreeNode_get0, gTreeNode_fld1, gTreeNode_get1]
    rw [e1, e2]
    refine ⟨o, _, hob o, hmo, rfl, fun o' ho' => ?_⟩
    rw [mput_rawP _ _ _ hfresh] at ho'
    simp (maxSteps := 2000000) only [uni_one_upd, vc_rg, thenQ_n, blockQ_n, kKeep_eq, segs_nil, segs_n, ops_nil, ops_cons, vcOp, ev, look, put_mk, put_mk0, keep_mk, keepL, binV, binC, Value.oneCell', cond_true, Nat.reduceEqDiff, ↓reduceIte, Bool.true_and, true_and]
    subst hQ; simp only [loopQ_n]; refine ⟨(j + 1, o'), ?_, ?_, ge_of ?_ ?_ rfl rfl rfl⟩
    · refine ⟨by simp only; omega, ?_⟩
      simp only
      rw [take_at hjt zTN, ht]
      have e4 : rawP (told.take j ++ [t]) = rawP (told.take j) ++ [(.int .i64 t.node, .int .i64 t.parent)] := by simp [rawP]
      rw [e4]
      exact ho'
    · simp only; omega
    · simp only [frIn, look, Nat.reduceEqDiff, ↓reduceIte, Bool.and_true, Bool.true_and, true_and, and_true]
      rw [wrap_n (by omega)]
      try simp
    · simp [pvIn, look]
  subst hQ
  rw [List.take_of_length_le (by omega)] at hmo
  simp (maxSteps := 2000000) only [vc_seq, vc_rg, thenQ_n, blockQ_e, loopQ_e, segs_n, ops_cons, vcOp, ev, look, put_mk, Nat.reduceEqDiff, ↓reduceIte]
  refine ⟨o, _, .inl (hob o), hmo, fun r it hit hdr => ?_⟩
  have hdr : dis (one r it) (uni (one bm o) (uni mX m1)) := hdr
  obtain ⟨hrb, hrn⟩ := uni_r hdr (hob o)
  have hob2 : ∀ it', (uni (one r it') (uni (one bm o) (uni mX m1))) bm = some o := fun it' => by
    have hne : r ≠ bm := fun e => by subst e; simp [one] at hrn
    simp only [uni, one, if_neg (Ne.symm hne)]
    simp
  have hor : ∀ it', (uni (one r it') (uni (one bm o) (uni mX m1))) r = some it' := fun it' => sub_uni_l _ _ _ _ (one_self _ _)
  generalize hX : uni (one bm o) (uni mX m1) = X at hob2 hor hdr
  simp (maxSteps := 2000000) only [vc_block, thenQ_n, kKeep_eq, segs_nil, ops_nil, look, put_mk, keep_mk, keepL, Nat.reduceEqDiff, ↓reduceIte]
  refine vc_loop (ι := List (Value × Value) × Obj) (fun x => ⟨[(3, .g (.s (.pointer (some ⟨b, 0, none⟩)))), (7, .g (.s (.map (some bm)))), (23, .row 0 0 (ops.length)), (24, .g (.s (.int .i64 (ops.length)))), (25, .g (.s (.int .i64 (i)))), (60, .g (.s (.pointer (some ⟨r, 0, none⟩))))], [(0, .ro 8 (gOp zOp) (ops.map gOp))], m5 :: phs, uni (one r x.2) X⟩)
    (fun x => IterM x.2 o bm x.1) (fun x => (rawP told).length - x.1.length) ([], it) hit (ge_of ?_ ?_ rfl rfl rfl) ?_
  · simp [frIn, look]
  · simp [pvIn, look]
  rintro ⟨s, it1⟩ hI
  simp only at hI
  generalize hQ : loopQ _ _ _ _ _ = Q
  simp (maxSteps := 2000000) only [c_law13_OplogTree_L2, vc_seq, vc_rg, segs_n, ops_cons, vcOp, ev, look, Nat.reduceEqDiff, ↓reduceIte]
  refine ⟨it1, _, o, _, _, _, hor it1, .inl (hob2 it1), hmo, hI, fun hp => ?_, fun pr it2 hpr hps hit2 => ?_⟩
  · simp (maxSteps := 2000000) only [List.getElem?_cons_zero, vc_exit, vc_seq, vc_ite, thenQ_n, thenQ_e, kKeep_eq, segs_nil, ops_nil, ops_cons, vcOp, ev, look, put_mk, keep_mk, keepL, Nat.reduceEqDiff, ↓reduceIte, ↓br_ft]
    subst hQ
    simp (maxSteps := 2000000) only [thenQ_n, blockQ_n, blockQ_e, loopQ_e, ↓reduceIte]
    refine vc_gh (gh_seq (gh_frz rfl (dis_one hdr it1) ?_))
    refine gh_seq (gh_frz hX.symm (hdm2 o) ?_)
    refine gh_frz rfl hdX ?_
    simp (maxSteps := 2000000) only [vc_rg, kKeep_eq, segs_nil, segs_n, ops_nil, ops_cons, vcOp, ev, look, put_mk, keep_mk, keepL, binV, binC, Value.oneCell', cond_true, Nat.reduceEqDiff, ↓reduceIte, Bool.true_and, true_and]
    subst hQ; simp only [loopQ_n]; refine ⟨(i + 1, L1, p1, m1, mX :: one bm o :: one r it1 :: m5 :: phs, l1), ?_, ?_, ge_of ?_ ?_ rfl rfl rfl⟩
    · exact ⟨by simp only; omega, hW1, by simp only; omega⟩
    · simp only; omega
    · simp only [frIn, look, Nat.reduceEqDiff, ↓reduceIte, Bool.and_true, Bool.true_and, true_and, and_true]
      rw [wrap_n (by omega)]
      try simp
    · simp [pvIn, look]
  · obtain ⟨t, ht, rfl⟩ := List.mem_map.1 hpr
    have hlen := hit2.le hmo
    simp only [List.length_append, List.length_cons, List.length_nil] at hlen
    simp (maxSteps := 2000000) only [List.getElem?_cons_zero, uni_one_upd, vc_skip, vc_seq, vc_block, vc_rg, vc_ite, thenQ_n, kKeep_eq, segs_nil, segs_n, ops_nil, ops_cons, vcOp, ev, look, put_mk, keep_mk, keepL, Nat.reduceEqDiff, ↓reduceIte, ↓br_tt]
    refine ⟨it2, _, o, _, _, _, _, .inl (hor it2), .inl (hob2 it2), hmo, hit2, ?_⟩
    simp (maxSteps := 2000000) only [List.getElem?_cons_zero, vc_seq, vc_rg, thenQ_n, kKeep_eq, segs_nil, segs_n, ops_nil, ops_cons, vcOp, ev, look, put_mk, keep_mk, keepL, Nat.reduceEqDiff, ↓reduceIte]
    refine ⟨o, _, .inl (hob2 it2), hmo, ?_⟩
    simp (maxSteps := 2000000) only [vc_block, thenQ_n, kKeep_eq, segs_nil, ops_nil, ops_cons, vcOp, ev, look, put_mk, keep_mk, keepL, binV, binC, Value.oneCell', cond_true, Nat.reduceEqDiff, ↓reduceIte, Bool.true_and, true_and]
    have hled : ∃ k, LeadsN TX.view k t.node ∧ k ≤ told.length := by
      obtain ⟨n, _, x, hx, e⟩ := toldL_node (T := TX) (l := nodesK TX) (t := t) (by rw [show toldL TX (nodesK TX) = told from hl0]; exact ht)
      rw [e]
      obtain ⟨k, hk⟩ := hgX.led n (by rw [PT.view_get hx]; simp)
      exact ⟨k, hk, by have := led_told hokX hk; rw [hl0] at this; exact this⟩
    obtain ⟨k0, hk0, hk1⟩ := hled
    have hrl : (rawP told).length = told.length := by simp [rawP]
    rw [hrl, wrap64 (by omega) (by omega)]
    refine vc_loop (ι := Nat × Int) (fun x => ⟨[(3, .g (.s (.pointer (some ⟨b, 0, none⟩)))), (7, .g (.s (.map (some bm)))), (13, .g (.s (.int .i64 (x.2)))), (23, .row 0 0 (ops.length)), (24, .g (.s (.int .i64 (ops.length)))), (25, .g (.s (.int .i64 (i)))), (60, .g (.s (.pointer (some ⟨r, 0, none⟩)))), (68, .g (.s (.int .i64 ((told.length : Int) + 1)))), (69, .g (.s (.int .i64 (x.1))))], [(0, .ro 8 (gOp zOp) (ops.map gOp))], m5 :: phs, uni (one r it2) X⟩)
      (fun x => ∃ k, LeadsN TX.view k x.2 ∧ k + x.1 ≤ told.length) (fun x => told.length - x.1) (0, t.node) ⟨k0, hk0, hk1⟩ (ge_of ?_ ?_ rfl rfl rfl) ?_
    · simp [frIn, look]
    · simp [pvIn, look]
    rintro ⟨n, a⟩ ⟨k, hk, hkn⟩
    simp only at hk hkn
    have next : ∀ fr : List (Nat × SV), frIn fr [(3, .g (.s (.pointer (some ⟨b, 0, none⟩)))), (7, .g (.s (.map (some bm)))), (23, .row 0 0 (ops.length)), (24, .g (.s (.int .i64 (ops.length)))), (25, .g (.s (.int .i64 (i)))), (60, .g (.s (.pointer (some ⟨r, 0, none⟩))))] → Q .normal ⟨fr, [(0, .ro 8 (gOp zOp) (ops.map gOp))], m5 :: phs, uni (one r it2) X⟩ := by
      intro fr hfr
      subst hQ
      simp only [loopQ_n]
      exact ⟨(s ++ [(.int .i64 t.node, .int .i64 t.parent)], it2), hit2, by simp only [List.length_append, List.length_cons, List.length_nil]; omega, ge_of hfr (by simp [pvIn, look]) rfl rfl rfl⟩
    generalize hQ2 : loopQ _ _ _ _ _ = Q2
    simp (maxSteps := 2000000) only [c_law13_OplogTree_L1, vc_skip, vc_exit, vc_seq, vc_block, vc_rg, vc_ite, thenQ_n, thenQ_e, blockQ_e, kKeep_eq, segs_nil, segs_n, segs_g, ops_nil, ops_cons, vcOp, RO.isGh, skip_mk, skipL, ev, look, put_mk, keep_mk, keepL, binV, binC, Value.oneCell', cond_true, cond_false, Nat.reduceEqDiff, ↓reduceIte, Bool.true_and, Bool.not_false, true_and, decide_eq_true_eq, decide_eq_false_iff_not, ↓br_tt, ↓br_ft, br_t, br_f]
    refine ⟨fun hn => ⟨fun h1 => ⟨fun h2 => ?_, fun h2 => ?_⟩, fun h1 => ?_⟩, fun hn => by omega⟩
    · subst hQ2
      obtain rfl : a = 2 := by simpa using h2
      simp (maxSteps := 2000000) only [Int.reduceBNe, vc_skip, vc_seq, vc_rg, vc_ite, thenQ_n, blockQ_n, blockQ_e, kKeep_eq, loopQ_e, segs_nil, segs_n, segs_g, ops_nil, ops_cons, vcOp, ev, look, put_mk, keep_mk, keepL, binV, binC, Value.oneCell', cond_true, Nat.reduceEqDiff, ↓reduceIte, Bool.true_and, BEq.rfl, true_and, ↓br_tt, ↓br_ft]
      exact next _ (by simp [frIn, look])
    · cases k with
      | zero =>
        rcases topB_iff.1 (show topB a = true from hk) with rfl | rfl
        · cases h1
        · cases h2
      | succ k =>
        obtain ⟨ht2, c, hc1, hc2⟩ := hk
        have hlk := told_look hokX hc1 ht2
        rw [hl0] at hlk
        refine ⟨o, _, .inl (hob2 it2), hmo, rfl, ?_⟩
        simp (maxSteps := 2000000) only [lkS, mget_rawP, hlk, Option.map_some, Option.isSome_some, Option.getD_some, List.getElem?_cons_succ, List.getElem?_cons_zero, vc_skip, vc_seq, vc_rg, vc_ite, thenQ_n, blockQ_n, kKeep_eq, segs_nil, segs_n, ops_nil, ops_cons, vcOp, ev, look, put_mk, keep_mk, keepL, binV, binC, unV, Value.oneCell', cond_true, Nat.reduceEqDiff, ↓reduceIte, Bool.true_and, Bool.not_true, true_and, Option.map_some, ↓br_ft]
        subst hQ2
        simp only [loopQ_n]
        refine ⟨(n + 1, c.parent), ⟨k, hc2, by simp only; omega⟩, by simp only; omega, ge_of ?_ ?_ rfl rfl rfl⟩
        · simp only [frIn, look, Nat.reduceEqDiff, ↓reduceIte, Bool.and_true, Bool.true_and, true_and, and_true]
          rw [wrap_n (by omega)]
          try simp
        · simp [pvIn, look]
    · subst hQ2
      obtain rfl : a = 1 := by simpa using h1
      simp (maxSteps := 2000000) only [Int.reduceBNe, vc_skip, vc_seq, vc_rg, vc_ite, thenQ_n, blockQ_n, blockQ_e, kKeep_eq, loopQ_e, segs_nil, segs_n, segs_g, ops_nil, ops_cons, vcOp, RO.isGh, skip_mk, skipL, ev, look, put_mk, keep_mk, keepL, binV, binC, Value.oneCell', cond_true, cond_false, Nat.reduceEqDiff, ↓reduceIte, Bool.true_and, Bool.not_true, true_and, ↓br_ft]
      exact next _ (by simp [frIn, look])
end Go.Proofs.YtmjiojflncffeaaGreat.Vc

/- OplogTree: where what is read is of bulk at most the row's bound, the law answers true and leaves its argument as it was. -/
set_option linter.unusedVariables false
set_option linter.unusedSimpArgs false
set_option maxRecDepth 100000
namespace Go.Proofs.YtmjiojflncffeaaGreat.Vc
open Go Go.Proofs Go.Proofs.YtmjiojflncffeaaGreat Go.ChangeShapes Go.WideShapes Go.ChangeAt

theorem OplogTree_open {H : Type} (enc : TypeId × Value → H) (W : World) (base : Nat) (vs : List Value) (h : RdBs enc Tryz.prog W base [22] vs 1048576) (_ : W.ShapedOpen Tryz.prog) : Spec Tryz.prog f_law13_OplogTree vs PH.no W fun rs _ => rs = [.s (.bool true)] := by
  obtain ⟨v1, vs, a, b, rfl, hab, h1, g1, h⟩ := rdbs_cons h
  obtain rfl := rdbs_nil h
  obtain ⟨ops, k1, l1, o1⟩ := open_OpsIn h1 g1
  exact tree13_spec W v1 ops (by omega) o1 k1

theorem OplogTree_reads (os : Os) {H : Type} (enc : TypeId × Value → H) : ∃ places, DataW.whole enc Tryz.prog ((World.holding Tryz.prog os ⟨#[], #[], []⟩).forCall (fun _ _ => 0) ⟨#[], #[.slice none 0 0], []⟩).memory Tryz.f6.params.toList Rows.oplogTreeSpec.vars false (#[.slice none 0 0] : Array Value).toList 8 = some ([.nil], [], places) :=
  ⟨[], by kernel_rfl⟩
theorem OplogTree_lifted (os : Os) (started : os.Started) (H : Type) (enc : TypeId × Value → H) (F : Stop.Interp) :
    ReturnsInHanded {} Tryz.checked os f_law13_OplogTree .any ((Rows.OpenSpec.upto Rows.oplogTreeSpec).preRow enc Tryz.prog Tryz.f6 Rows.oplogTreeUptoRow.domain false Rows.oplogTreeUptoRow.laid) (((Rows.OpenSpec.upto Rows.oplogTreeSpec).at F).post enc Tryz.prog Tryz.f6 false true false false) := by
  obtain ⟨places, hx⟩ := OplogTree_reads os enc
  exact law_lifted_upto (C := Tryz.checked) Try_own Try_laidOut started (by kernel_rfl) Tryz.func6
    (witness_row_at (enc := enc) (C := Tryz.checked) false (World.holding Tryz.prog os ⟨#[], #[], []⟩) #[.slice none 0 0] rfl (by kernel_rfl) (by kernel_rfl) (by kernel_rfl)
      (OpenSpec.preRow_of_cond 8 hx (by kernel_rfl) (fun k hk => by cases hk; kernel_rfl) (by kernel_rfl) (laidMet_of_run' 8 (by kernel_rfl) (by kernel_rfl))))
    (by kernel_rfl) rfl (tb := 4) (by kernel_rfl) (by kernel_rfl) (ts := [22]) (by kernel_rfl) (fun ds h => by match ds, h with | [d0], _ => rfl) (OplogTree_open enc)
theorem OplogTree_upto : Rows.OplogTreeUptoSaid :=
  OpenClaim.holds_of_cond f_law13_OplogTree Tryz.f6 rfl rfl rfl rfl rfl rfl rfl ⟨rfl, rfl, rfl, rfl, rfl⟩ rfl rfl rfl rfl rfl (by kernel_rfl) Tryz.func6 (by kernel_rfl)
    (of_decide_eq_true (by kernel_rfl)) (by unfold Func.isWrapper; first | (rw [if_pos (by decide +kernel)]; kernel_rfl) | (rw [if_neg (by decide +kernel)]; exact ⟨rfl, rfl⟩))
    (fun os started H enc _ F => by rw [OpenClaim.pre_eq_preRow]; exact OplogTree_lifted os started H enc F)
#print axioms OplogTree_upto
end Go.Proofs.YtmjiojflncffeaaGreat.Vc

