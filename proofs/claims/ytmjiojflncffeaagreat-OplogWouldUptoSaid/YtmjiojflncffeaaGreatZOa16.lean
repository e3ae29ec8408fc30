/- OplogRedoes and OplogWould: where what is read is of bulk at most the row's bound, the law answers true and leaves its arguments as they were. -/
import Derived.Test.YtmjiojflncffeaaGreatProg
import Derived.Test.YtmjiojflncffeaaGreatZOa15
/- The document's lists of nodes: compared. -/
set_option linter.unusedVariables false
set_option linter.unusedSimpArgs false
set_option maxRecDepth 100000
namespace Go.Proofs.YtmjiojflncffeaaGreat.Vc
open Go Go.Proofs

theorem SlR.spot {u : PH} {a : Option Addr} {n c z : Nat} {xs : List GV} (h : SlR u (.slice a n c) z xs) (hne : 0 < xs.length) :
    ∃ b o, a = some ⟨b, o, none⟩ ∧ n = xs.length ∧ n ≤ c ∧ ∀ {C : Ctx} {ph : List PH} {m : PH}, KN C.u0 (m :: ph) u → ∀ i x, xs[i]? = some x → Seen C ph m b (o + i * z) x := by
  rcases h.shape with ⟨h1, _⟩ | ⟨_, b, o, c', h1, h2, h3⟩
  · subst h1; simp at hne
  · simp only [Value.slice.injEq] at h1
    obtain ⟨rfl, rfl, rfl⟩ := h1
    exact ⟨b, o, rfl, rfl, h2, h3⟩
theorem seen_fst {C : Ctx} {ph : List PH} {m : PH} {b o : Nat} {x y : GV} (h : Seen C ph m b o (.c x y)) : Seen C ph m b o x := by
  obtain ⟨h1, cs, e, fz, h2, h3⟩ := h
  exact ⟨h1.1, cs, e, fz, h2, fun j v hj => h3 j v (by
    rw [GV.flat, List.getElem?_append_left (List.getElem?_eq_some_iff.1 hj).1]; exact hj)⟩
theorem seen_snd {C : Ctx} {ph : List PH} {m : PH} {b o k : Nat} {x y : GV} (h : Seen C ph m b o (.c x y)) (hk : k = o + x.sz) : Seen C ph m b k y := by
  obtain ⟨h1, cs, e, fz, h2, h3⟩ := h
  subst hk
  exact ⟨h1.2, cs, e, fz, h2, fun j v hj => by
    have := h3 (x.sz + j) v (by
      rw [GV.flat, List.getElem?_append_right (by rw [GV.flat_len x h1.1]; omega), GV.flat_len x h1.1, Nat.add_sub_cancel_left]; exact hj)
    rw [Nat.add_assoc]; exact this⟩
theorem seen_TN {C : Ctx} {ph : List PH} {m : PH} {b o : Nat} {t : TreeNode} (h : Seen C ph m b o (gTreeNode t)) : Seen C ph m b o (.s (.int .i64 t.node)) ∧ Seen C ph m b (o + 1) (.s (.int .i64 t.parent)) ∧ Seen C ph m b (o + 2) (.s (.string t.name)) ∧ Seen C ph m b (o + 3) (.s t.attrs) := by
  have h1 := seen_snd (k := o + 1) h rfl
  have h2 := seen_snd (k := o + 2) h1 rfl
  have h3 := seen_snd (k := o + 3) h2 rfl
  exact ⟨seen_fst h, seen_fst h1, seen_fst h2, seen_fst h3⟩
theorem seen_AT {C : Ctx} {ph : List PH} {m : PH} {b o : Nat} {t : Attr} (h : Seen C ph m b o (gAttr t)) : Seen C ph m b o (.s (.string t.key)) ∧ Seen C ph m b (o + 1) (.s (.string t.value)) :=
  ⟨seen_fst h, seen_fst (seen_snd (k := o + 1) h rfl)⟩
theorem TnOk_one {u : PH} {t : TreeNode} {l : List Attr} (h : SlR u t.attrs 2 (l.map gAttr)) : t.attrs.oneCell' = true := by
  rcases h.2 with ⟨e, _⟩ | ⟨ad, c, e, _⟩ <;> rw [e] <;> rfl

theorem rSameNode_spec (w : World) (t1 t2 : TreeNode) (a b : TN) (u : PH) (hu : u.le w) (h1 : t1.node = a.node ∧ t1.parent = a.parent ∧ t1.name = a.name ∧ SlR u t1.attrs 2 (a.attrs.map gAttr)) (h2 : t2.node = b.node ∧ t2.parent = b.parent ∧ t2.name = b.name ∧ SlR u t2.attrs 2 (b.attrs.map gAttr))
    (hb : a.attrs.length ≤ 140737488355328) :
    Spec Tryz.prog f_ref12_SameNode [(gTreeNode t1).val, (gTreeNode t2).val] PH.no w fun rs _ => rs = [.s (.bool (decide (a = b)))] := by
  refine spec_val k_ref12_SameNode (Qf := fun rs => rs = [.s (.bool (decide (a = b)))]) [.g (gTreeNode t1), .g (gTreeNode t2)] (by simp) (by simp [AV.ok, gTreeNode_ok t1 (TnOk_one h1.2.2.2), gTreeNode_ok t2 (TnOk_one h2.2.2.2)]) ?_
  obtain ⟨n1, p1, m1, la⟩ := a
  obtain ⟨n2, p2, m2, lb⟩ := b
  obtain ⟨n1', p1', m1', v1⟩ := t1
  obtain ⟨n2', p2', m2', v2⟩ := t2
  obtain ⟨e1, e2, e3, h1⟩ := h1
  obtain ⟨g1, g2, g3, h2⟩ := h2
  simp only at e1 e2 e3 g1 g2 g3 h1 h2 hb
  subst e1; subst e2; subst e3; subst g1; subst g2; subst g3
  obtain ⟨a1, c1, hv1⟩ := slr_len h1
  obtain ⟨a2, c2, hv2⟩ := slr_len h2
  rw [List.length_map] at hv1 hv2
  subst hv1; subst hv2
  simp (maxSteps := 2000000) only [c_ref12_SameNode, vc_skip, vc_ret, vc_seq, vc_block, vc_rg, vc_ite, thenQ_n, thenQ_r, kKeep_eq, segs_nil, segs_n, segs_g, ops_nil, ops_cons, vcOp, RO.isGh, skip_mk, skipL, ev, look, updL, put_mk, keep_mk, keepL, binV, binC, GV.getT, Value.oneCell', cond_true, cond_false, Nat.reduceEqDiff, ↓reduceIte, reduceCtorEq, List.nil_append, Nat.zero_add, Bool.true_and, Bool.not_false, true_and, initF, initP, finW_r, resL, resOne, ↓br_tt, ↓br_tf, ↓br_ft, br_t, br_f, getT_nil, fits_s, gTreeNode_fld0, gTreeNode_get0, gTreeNode_fld1, gTreeNode_get1, gTreeNode_fld2, gTreeNode_get2, gTreeNode_fld3, gTreeNode_get3]
  refine ⟨fun k1 => ⟨fun k2 => ⟨fun k3 => ⟨fun k4 => ?_, fun k4 => ?_⟩, fun k3 => ?_⟩, fun k2 => ?_⟩, fun k1 => ?_⟩
  · rw [bne_iff_ne] at k4
    rw [decide_eq_false fun e => k4 (by cases e; rfl)]
  · rw [bne_eq_false_iff_eq] at k1 k2 k4
    simp only [Bool.not_eq_false', decide_eq_true_eq] at k3
    have hll : la.length = lb.length := by omega
    subst k1; subst k2; subst k3
    refine vc_loop (ι := Nat) (fun i => ⟨[(2, .ref 2 []), (3, .ref 3 []), (5, .g (.s (.int .i64 (i))))], [(2, .box (gTreeNode ⟨n1', p1', m1', .slice a1 la.length c1⟩)), (3, .box (gTreeNode ⟨n1', p1', m1', .slice a2 lb.length c2⟩))], [], PH.no⟩) (fun i => i ≤ la.length ∧ la.take i = lb.take i) (fun i => la.length - i) 0 (by simp) (ge_of ?_ ?_ rfl rfl rfl) ?_
    · simp [frIn, look]
    · simp [pvIn, look]
    rintro i ⟨hi, hj⟩
    generalize hQ : loopQ _ _ _ _ _ = Q
    by_cases hlt : i < la.length
    · obtain ⟨b1, o1, rfl, _, _, s1⟩ := h1.spot (by simp; omega)
      obtain ⟨b2, o2, rfl, _, _, s2⟩ := h2.spot (by simp; omega)
      have hx1 : (la.map gAttr)[i]? = some (gAttr (la.getD i zAttr)) := by rw [List.getElem?_map, List.getD_eq_getElem?_getD, List.getElem?_eq_getElem hlt]; rfl
      have hx2 : (lb.map gAttr)[i]? = some (gAttr (lb.getD i zAttr)) := by rw [List.getElem?_map, List.getD_eq_getElem?_getD, List.getElem?_eq_getElem (by omega)]; rfl
      simp (maxSteps := 2000000) only [c_ref12_SameNode_L0, vc_skip, vc_exit, vc_seq, vc_block, vc_rg, vc_rgq, vc_ite, thenQ_n, thenQ_e, kKeep_eq, segs_nil, segs_n, ops_nil, ops_cons, qsegs_n, qops_cons, vcqOp, vcOp, isRd, ev, look, put_mk, keep_mk, keepL, binV, binC, GV.getT, Nat.reduceEqDiff, ↓reduceIte, List.nil_append, Bool.true_and, Bool.not_false, true_and, Int.toNat_natCast, decide_eq_true_eq, decide_eq_false_iff_not, br_t, getT_nil, fits_s, gTreeNode_fld3, gTreeNode_get3]
      refine ⟨fun _ => ⟨⟨by omega, by omega⟩, ld_of _ (s1 (kn_u hu) i _ hx1) (gAttr_fits _) ?_⟩, fun h => absurd (show (i : Int) < la.length by omega) h⟩
      simp (maxSteps := 2000000) only [qops_cons, vcqOp, vcOp, isRd, ev, look, put_mk, GV.getT, Nat.reduceEqDiff, ↓reduceIte, List.nil_append, Bool.true_and, Bool.not_false, true_and, Int.toNat_natCast, getT_nil, fits_s, gTreeNode_fld3, gTreeNode_get3]
      refine ⟨⟨by omega, by omega⟩, ld_of _ (s2 (kn_u hu) i _ hx2) (gAttr_fits _) ?_⟩
      simp (maxSteps := 2000000) only [segs_n, ops_cons, qsegs_nil, qops_nil, vcOp, ev, look, put_mk, Nat.reduceEqDiff, ↓reduceIte]
      refine eq_of (eqG_attr _ _) ?_
      simp (maxSteps := 2000000) only [Bool.not_eq_true', Bool.not_eq_false', decide_eq_false_iff_not, decide_eq_true_eq, vc_skip, vc_ret, vc_seq, vc_rg, vc_ite, thenQ_n, thenQ_r, blockQ_n, blockQ_r, kKeep_eq, segs_nil, segs_n, ops_nil, ops_cons, vcOp, ev, look, put_mk, keep_mk, keepL, binV, binC, Value.oneCell', cond_true, Nat.reduceEqDiff, ↓reduceIte, Bool.true_and, true_and, decide_eq_true_eq, decide_eq_false_iff_not, br_t, Bool.bne_true]
      refine ⟨fun hne => ?_, fun he => ?_⟩
      · subst hQ
        simp (maxSteps := 2000000) only [thenQ_r, blockQ_r, loopQ_r, look, ↓reduceIte, finW_r, resL, resOne]
        rw [decide_eq_false fun e => hne (by cases e; rfl)]
      · subst hQ; simp only [loopQ_n]; refine ⟨i + 1, ?_, ?_, ge_of ?_ ?_ rfl rfl rfl⟩
        · refine ⟨by omega, ?_⟩
          rw [List.take_add_one, List.take_add_one, hj]
          congr 1
          rw [List.getD_eq_getElem?_getD, List.getD_eq_getElem?_getD, List.getElem?_eq_getElem (by omega), List.getElem?_eq_getElem (by omega)] at he
          rw [List.getElem?_eq_getElem (by omega), List.getElem?_eq_getElem (by omega)]
          simpa using he
        · omega
        · simp only [frIn, look, Nat.reduceEqDiff, ↓reduceIte, Bool.and_true, Bool.true_and, true_and, and_true]
          rw [wrap_n (by omega)]
          try simp
        · simp [pvIn, look]
    · simp (maxSteps := 2000000) only [c_ref12_SameNode_L0, vc_skip, vc_exit, vc_seq, vc_block, vc_rg, vc_rgq, vc_ite, thenQ_n, thenQ_e, kKeep_eq, segs_nil, segs_n, ops_nil, ops_cons, qsegs_nil, qsegs_n, qops_nil, qops_cons, vcqOp, vcOp, isRd, ev, look, put_mk, keep_mk, keepL, rowE, rowD, binV, binC, GV.getT, Nat.reduceEqDiff, ↓reduceIte, List.nil_append, Bool.true_and, Bool.not_false, true_and, decide_eq_true_eq, decide_eq_false_iff_not, br_t, getT_nil, fits_s, gTreeNode_fld3, gTreeNode_get3]
      refine ⟨fun h => absurd (show i < la.length by omega) hlt, fun _ => ?_⟩
      subst hQ
      simp (maxSteps := 2000000) only [vc_ret, vc_seq, vc_rg, thenQ_n, blockQ_e, kKeep_eq, loopQ_e, segs_nil, segs_n, ops_nil, ops_cons, vcOp, ev, look, put_mk, keep_mk, keepL, Value.oneCell', cond_true, ↓reduceIte, finW_r, resL, resOne]
      have e1 : la.take i = la := List.take_of_length_le (by omega)
      have e2 : lb.take i = lb := List.take_of_length_le (by omega)
      rw [e1, e2] at hj
      rw [decide_eq_true (by rw [hj])]
  · rw [decide_eq_false fun e => by cases e; simp at k3]
  · rw [bne_iff_ne] at k2
    rw [decide_eq_false fun e => k2 (by cases e; rfl)]
  · rw [bne_iff_ne] at k1
    rw [decide_eq_false fun e => k1 (by cases e; rfl)]

theorem rSame_spec (w : World) (va vb : Value) (ts1 ts2 : List TreeNode) (l1 l2 : List TN) (u : PH) (hu : u.le w) (ha : SlR u va 4 (ts1.map gTreeNode)) (hb : SlR u vb 4 (ts2.map gTreeNode)) (h1 : TsOk u ts1 l1) (h2 : TsOk u ts2 l2)
    (hn : ts1.length ≤ 140737488355328) (hs1 : ∀ t ∈ l1, t.attrs.length ≤ 140737488355328) :
    Spec Tryz.prog f_ref12_Same [va, vb] PH.no w fun rs _ => rs = [.s (.bool (decide (l1 = l2)))] := by
  refine spec_val k_ref12_Same (Qf := fun rs => rs = [.s (.bool (decide (l1 = l2)))]) [.ro va 4 (gTreeNode zTreeNode) (ts1.map gTreeNode), .ro vb 4 (gTreeNode zTreeNode) (ts2.map gTreeNode)] (by simp) (by simpa [AV.ok, u0_no] using ⟨ha.up hu.sub, hb.up hu.sub⟩) ?_
  have hl1 := h1.len
  have hl2 := h2.len
  simp (maxSteps := 2000000) only [c_ref12_Same, vc_skip, vc_ret, vc_seq, vc_block, vc_rg, vc_ite, thenQ_n, thenQ_r, kKeep_eq, segs_nil, segs_n, ops_nil, ops_cons, vcOp, ev, look, put_mk, keep_mk, keepL, binV, binC, Value.oneCell', cond_true, Nat.reduceEqDiff, ↓reduceIte, reduceCtorEq, Nat.zero_add, Bool.true_and, true_and, initF, initP, finW_r, resL, resOne, br_t, List.length_map, List.length_map]
  refine ⟨fun hne => ?_, fun heq => ?_⟩
  · rw [bne_iff_ne] at hne
    rw [decide_eq_false fun e => hne (by rw [hl1, hl2, e])]
  rw [bne_eq_false_iff_eq] at heq
  refine vc_loop (ι := Nat) (fun i => ⟨[(0, .row 0 0 (ts1.length)), (1, .row 1 0 (ts2.length)), (5, .g (.s (.int .i64 (i))))], [(0, .ro 4 (gTreeNode zTreeNode) (ts1.map gTreeNode)), (1, .ro 4 (gTreeNode zTreeNode) (ts2.map gTreeNode))], [], PH.no⟩) (fun i => i ≤ ts1.length ∧ l1.take i = l2.take i) (fun i => ts1.length - i) 0 (by simp) (ge_of ?_ ?_ rfl rfl rfl) ?_
  · simp [frIn, look]
  · simp [pvIn, look]
  rintro i ⟨hi, hj⟩
  generalize hQ : loopQ _ _ _ _ _ = Q
  simp (maxSteps := 2000000) only [c_ref12_Same_L0, vc_skip, vc_exit, vc_seq, vc_block, vc_rg, vc_rgq, vc_ite, thenQ_n, thenQ_e, kKeep_eq, segs_nil, segs_n, ops_nil, ops_cons, qsegs_nil, qsegs_n, qops_nil, qops_cons, vcqOp, vcOp, isRd, ev, look, put_mk, keep_mk, keepL, rowE, rowD, binV, binC, Nat.reduceEqDiff, ↓reduceIte, reduceCtorEq, Nat.zero_add, Bool.true_and, true_and, Int.toNat_natCast, decide_eq_true_eq, decide_eq_false_iff_not, br_t, getT_nil, gTreeNode_fits, getD_gTreeNode]
  refine ⟨fun hlt => ⟨⟨by omega, by omega⟩, ⟨by omega, by omega⟩, ?_⟩, fun hlt => ?_⟩
  · have g1 := h1.at i (by omega)
    have g2 := h2.at i (by omega)
    have hm1 : l1.getD i zTN ∈ l1 := by rw [List.getD_eq_getElem?_getD, List.getElem?_eq_getElem (by omega)]; exact List.getElem_mem _
    refine call_is _ [.s (.bool (decide (l1.getD i zTN = l2.getD i zTN)))] rfl rfl (fun w' vs hv hw => ?_) ?_
    · obtain ⟨vs, rfl, _, hv⟩ := argsV_g hv
      obtain ⟨vs, rfl, _, hv⟩ := argsV_g hv
      obtain rfl := argsV_nil hv
      intro _
      exact rSameNode_spec w' _ _ _ _ u (fun b o h => hw b o (by rw [u0_no]; exact hu b o h)) g1 g2 (hs1 _ hm1)
    simp (maxSteps := 2000000) only [retS, Bool.not_eq_true', Bool.not_eq_false', decide_eq_false_iff_not, decide_eq_true_eq, vc_skip, vc_ret, vc_seq, vc_rg, vc_ite, thenQ_n, thenQ_r, blockQ_n, blockQ_r, kKeep_eq, segs_nil, segs_n, ops_nil, ops_cons, vcOp, ev, look, put_mk, keep_mk, keepL, binV, binC, unV, Value.oneCell', cond_true, Nat.reduceEqDiff, ↓reduceIte, reduceCtorEq, Bool.true_and, true_and, decide_eq_true_eq, decide_eq_false_iff_not, br_t]
    refine ⟨fun hne => ?_, fun he => ?_⟩
    · subst hQ
      simp (maxSteps := 2000000) only [thenQ_r, blockQ_r, loopQ_r, look, ↓reduceIte, finW_r, resL, resOne]
      rw [decide_eq_false fun e => hne (by rw [e])]
    · subst hQ; simp only [loopQ_n]; refine ⟨i + 1, ?_, ?_, ge_of ?_ ?_ rfl rfl rfl⟩
      · refine ⟨by omega, ?_⟩
        rw [List.take_add_one, List.take_add_one, hj]
        congr 1
        rw [List.getD_eq_getElem?_getD, List.getD_eq_getElem?_getD, List.getElem?_eq_getElem (by omega), List.getElem?_eq_getElem (by omega)] at he
        rw [List.getElem?_eq_getElem (by omega), List.getElem?_eq_getElem (by omega)]
        simpa using he
      · omega
      · simp only [frIn, look, Nat.reduceEqDiff, ↓reduceIte, reduceCtorEq, Bool.and_true, Bool.true_and, true_and, and_true]
        rw [wrap_n (by omega)]
        try simp
      · simp [pvIn, look]
  · subst hQ
    simp (maxSteps := 2000000) only [vc_ret, vc_seq, vc_rg, thenQ_n, blockQ_e, kKeep_eq, loopQ_e, segs_nil, segs_n, ops_nil, ops_cons, vcOp, ev, look, put_mk, keep_mk, keepL, Value.oneCell', cond_true, ↓reduceIte, finW_r, resL, resOne]
    have e1 : l1.take i = l1 := List.take_of_length_le (by omega)
    have e2 : l2.take i = l2 := List.take_of_length_le (by omega)
    rw [e1, e2] at hj
    rw [decide_eq_true hj]
end Go.Proofs.YtmjiojflncffeaaGreat.Vc

/- A log is cut. -/
set_option linter.unusedVariables false
set_option linter.unusedSimpArgs false
set_option maxRecDepth 100000
namespace Go.Proofs.YtmjiojflncffeaaGreat.Vc
open Go Go.Proofs

/-- How many operations are at or below a time. -/
def cutA (ds : List Done) (t : Int) : Nat := (ds.takeWhile fun d => decide (d.op.stamp.time ≤ t)).length
theorem cutA_le (ds : List Done) (t : Int) : cutA ds t ≤ ds.length := (List.takeWhile_prefix _).length_le
theorem cutA_of : ∀ {ds : List Done} {t : Int} {i : Nat}, i ≤ ds.length → (∀ j, j < i → (ds.getD j zDone).op.stamp.time ≤ t) → (i < ds.length → ¬ (ds.getD i zDone).op.stamp.time ≤ t) → cutA ds t = i
  | [], t, i, h, _, _ => by simp at h; subst h; rfl
  | d :: ds, t, 0, _, _, h => by
    have : ¬ d.op.stamp.time ≤ t := h (by simp)
    simp [cutA, List.takeWhile_cons, this]
  | d :: ds, t, i + 1, h, h1, h2 => by
    have h0 : d.op.stamp.time ≤ t := h1 0 (by omega)
    have ih := cutA_of (ds := ds) (t := t) (i := i) (by simpa using h) (fun j hj => h1 (j + 1) (by omega)) (fun hi => h2 (by simpa using hi))
    simp only [cutA] at ih
    simp [cutA, List.takeWhile_cons, h0, ih]
/-- The log behind a cut. -/
def PL.cut (p : PL) (t : Int) (i1 : List Int) : PL := { p with B := ideal p.B ((p.ds.take (cutA p.ds t)).map (·.op)), fr := t, ds := p.ds.drop (cutA p.ds t), i0 := i1 }
theorem PL.good.cut {p : PL} {mk : Value} {kb q : Nat} (h : p.good mk kb q) (t : Int) : ∃ i1, (p.cut t i1).good mk (kb + cutA p.ds t) q := by
  have hl := cutA_le p.ds t
  generalize hn : cutA p.ds t = n at hl
  have hh := h.fl.hist
  rw [← List.take_append_drop n p.ds] at hh
  obtain ⟨i1, _, h2⟩ := hh.drop
  have ho : ∀ op ∈ (p.ds.take n).map (·.op), OpOk op := fun op hop => by
    obtain ⟨d, hd, rfl⟩ := List.mem_map.1 hop
    exact h.ops d (List.mem_of_mem_take hd)
  refine ⟨i1, ⟨⟨?_, ?_, h.fl.ex, h.fl.last, h.fl.ids⟩, ?_, ?_, ?_, ?_, ?_⟩⟩
  · simp only [PL.cut, hn]; exact h2
  · simp only [PL.cut, hn]
    rw [← ideal_app, ← List.map_append, List.take_append_drop]
    exact h.fl.view
  · simp only [PL.cut, hn]
    have := ideal_ok h.bok ho
    rwa [List.length_map, List.length_take, Nat.min_eq_left hl] at this
  · simp only [PL.cut, hn]
    exact ideal_good h.bok h.bgood ho
  · simp only [PL.cut, hn, List.length_drop]
    have := h.many
    omega
  · simp only [PL.cut, hn]
    exact List.Pairwise.sublist ((List.drop_sublist _ _).map _) h.ris
  · simp only [PL.cut, hn]
    exact fun d hd => h.ops d (List.mem_of_mem_drop hd)

theorem LogM.reI {m : PH} {b : Nat} {L Lb : Lay} {p : PL} (h : LogM m b L Lb p) (i : List Int) : LogM m b L Lb { p with i0 := i } := by
  obtain ⟨ov, e, mo, mT, mB, rfl, q⟩ := h
  exact ⟨ov, e, mo, mT, mB, rfl, ⟨q.d1, q.d2, q.d3, q.ops, q.tree, q.base⟩⟩
theorem sub_skip {a c x : PH} (h : dis a x) : PH.sub (uni c x) (uni c (uni a x)) := fun k o hk => by
  simp only [uni] at hk ⊢
  cases h1 : c k with
  | some y => rw [h1] at hk; simpa [h1] using hk
  | none =>
    rw [h1] at hk
    have hk : x k = some o := by simpa using hk
    have := sub_uni_r h k o hk
    simpa [uni] using this
theorem cut_spec (w : World) (m : PH) (b : Nat) (L Lb : Lay) (p : PL) (hL : LogM m b L Lb p) {mk : Value} {kb q : Nat} (hg : p.good mk kb q) (hq : q < 1099511627776) (hfew : p.ds.length ≤ 549755813888) (t : Int) :
    Spec Tryz.prog f_oplog_Log_Cut [ptr b, .int .i64 t] m w fun rs m' =>
      (t < p.fr ∨ 1099511627776 < t → rs = [.s (.int .i64 1)] ∧ LogM m' b L Lb p) ∧
      (¬ (t < p.fr ∨ 1099511627776 < t) → rs = [.s (.int .i64 0)] ∧ ∀ i1, ∃ Lb', Lb' .t = Lb .t ∧ LogM m' b L Lb' (p.cut t i1)) := by
  refine spec_of k_oplog_Log_Cut [.g (.s (ptr b)), .g (.s (.int .i64 t))] (by simp) (by simp [AV.ok, GV.ok, Value.oneCell', ptr]) ?_
  have hof : ∀ d ∈ p.ds, d.undo.of.oneCell' = true ∨ True := fun d hd => .inr trivial
  obtain ⟨ov0, _, _, hS0, _, _, hs0⟩ := hL.look
  simp (maxSteps := 2000000) only [c_oplog_Log_Cut, ptr, vc_seq, vc_block, vc_rg, thenQ_n, kKeep_eq, segs_nil, segs_n, ops_nil, ops_cons, vcOp, ev, look, put_mk, keep_mk, keepL, Value.oneCell', cond_true, Nat.reduceEqDiff, ↓reduceIte, reduceCtorEq, Nat.zero_add, initF, initP, ptr]
  refine call_ism _ [.s (.bool false)] rfl rfl (fun w' vs hv _ _ hm => ?_) ?_
  · obtain ⟨vs, rfl, _, hv⟩ := argsV_g hv
    obtain rfl := argsV_nil hv
    exact logNone_spec hm hL
  simp (maxSteps := 2000000) only [retS, vc_seq, vc_rg, vc_ite, thenQ_n, kKeep_eq, segs_nil, segs_n, ops_nil, ops_cons, vcOp, ev, look, put_mk, keep_mk, keepL, Nat.reduceEqDiff, ↓reduceIte, reduceCtorEq, Nat.zero_add, ↓br_ft]
  refine ld_of _ (hs0 (KN.mem (by simp))).2.2.1 rfl ?_
  simp (maxSteps := 2000000) only [vc_skip, vc_ret, vc_seq, vc_block, vc_rg, vc_ite, thenQ_n, thenQ_r, blockQ_n, blockQ_r, kKeep_eq, finQ_r, segs_nil, segs_n, segs_g, ops_nil, ops_cons, vcOp, RO.isGh, skip_mk, skipL, ev, look, put_mk, keep_mk, keepL, binV, binC, Value.oneCell', cond_true, cond_false, Nat.reduceEqDiff, ↓reduceIte, reduceCtorEq, Bool.true_and, Bool.not_false, true_and, decide_eq_true_eq, decide_eq_false_iff_not, ↓br_tt, ↓br_ft, br_t, br_f]
  refine ⟨fun h1 => ⟨fun h2 => fin_m m rfl (fun _ _ h => h) ⟨fun _ => ⟨rfl, hL⟩, fun h => absurd (.inr h2) h⟩, fun h2 => ?_⟩, fun h1 => fin_m m rfl (fun _ _ h => h) ⟨fun _ => ⟨rfl, hL⟩, fun h => absurd (.inl h1) h⟩⟩
  refine vc_loop (ι := Nat × Lay × PH) (fun x => ⟨[(0, .g (.s (.pointer (some ⟨b, 0, none⟩)))), (1, .g (.s (.int .i64 (t)))), (5, .g (.s (.int .i64 (x.1))))], [], [], x.2.2⟩)
    (fun x => x.1 ≤ p.ds.length ∧ (∀ j, j < x.1 → (p.ds.getD j zDone).op.stamp.time ≤ t) ∧ x.2.1 .t = Lb .t ∧ LogM x.2.2 b L x.2.1 { p with B := ideal p.B ((p.ds.take x.1).map (·.op)) }) (fun x => p.ds.length - x.1) (0, Lb, m) ⟨by simp, by simp, rfl, hL⟩ (ge_of ?_ ?_ rfl rfl rfl) ?_
  · simp [frIn, look]
  · simp [pvIn, look]
  rintro ⟨n, L1, m1⟩ ⟨hn, hj, hL1, hM⟩
  simp only at hn hj hL1 hM
  generalize hQ : loopQ _ _ _ _ _ = Q
  obtain ⟨ov, mT, mB, hS, _, _, hs⟩ := hM.look
  have hs1 := hs (C := ⟨Tryz.prog, 70, w, m⟩) (ph := []) (m' := m1) (KN.mem (by simp))
  have stop : (n < p.ds.length → ¬ (p.ds.getD n zDone).op.stamp.time ≤ t) → ∀ σ : SS, Ge σ ⟨[(0, .g (.s (.pointer (some ⟨b, 0, none⟩)))), (1, .g (.s (.int .i64 (t)))), (5, .g (.s (.int .i64 (n))))], [], [], m1⟩ → Q (.exit 1) σ := by
    intro hst σ hσ
    subst hQ
    simp only [loopQ_e, blockQ_e, if_true, thenQ_n, vc_seq]
    refine vc_gh_of_ge hσ ?_
    simp (maxSteps := 2000000) only [vc_rg, segs_n, ops_cons, vcOp, ev, look, put_mk, ↓reduceIte, reduceCtorEq, Nat.zero_add]
    have hs3 := hs1.2.2.2.1
    refine ld_of _ hs3 rfl ?_
    simp (maxSteps := 2000000) only [ops_cons, vcOp, ev, look, put_mk, Nat.reduceEqDiff, ↓reduceIte, reduceCtorEq]
    refine gh_id ?_
    refine ops_sl (l := n) (h := p.ds.length) rfl hS rfl (fun d hd => by rw [hd, List.length_map]; rfl) hn (by simp) fun v63 hv1 hv2 => ?_
    rw [List.take_of_length_le (by simp)] at hv2
    simp (maxSteps := 2000000) only [ops_cons, vcOp, put_mk]
    refine call_ownm rfl rfl (Q := fun rs m' => ∃ v', rs = [.s v'] ∧ SlO m' v' 97 22 ((p.ds.drop n).map gDone)) (fun w' vs hv _ _ hm => ?_) fun rs mD _ hq1 hdD => ?_
    · obtain ⟨vs, rfl, _, hv⟩ := argsV_g hv
      obtain rfl := argsV_nil hv
      rw [← List.map_drop] at hv2
      exact cloneD_spec w' v63 _ (by simp; omega) m1 hm hv2
    obtain ⟨vo, rfl, hD⟩ := hq1
    have hdD : dis mD m1 := hdD
    simp (maxSteps := 2000000) only [retS, ops_cons, vcOp, ev, look, put_mk, Nat.reduceEqDiff, ↓reduceIte, reduceCtorEq, Nat.zero_add]
    obtain ⟨ov1, e1, mo, mr, hm1, hdm, hO, hb1, _, hmk⟩ := hM.list
    have hbm := uni_r hdm hb1
    rw [← hm1] at hbm
    have hbd := uni_r hdD hbm.1
    refine st_of rfl _ e1 ⟨hbd.1, by simp⟩ ?_
    simp (maxSteps := 2000000) only [ops_cons, vcOp, ev, look, put_mk, put_mk0, Nat.reduceEqDiff, ↓reduceIte, Nat.zero_add, ptr]
    refine st_of rfl _ e1 ⟨upd_self _ _ _, by simp [writeAt, GV.flat]⟩ ?_
    simp (maxSteps := 2000000) only [vc_ret, vc_seq, vc_rg, thenQ_n, kKeep_eq, finQ_r, segs_nil, segs_n, ops_nil, ops_cons, vcOp, ev, look, put_mk, put_mk0, keep_mk, keepL, Value.oneCell', cond_true, ↓reduceIte]
    rw [upd_upd2, uni_upd hbd.2, hm1, uni_upd hbm.2]
    have hdr : dis mD mr := by rw [hm1] at hdD; exact (dis_of_uni_r hdD).2
    have hcn : cutA p.ds t = n := cutA_of hn hj hst
    have hM2 := hmk (ds' := p.ds.drop n) (fr' := t) (red' := p.red) hD hdr
    refine fin_m (uni mD (mr.upd b (logC L L1 t vo p.red e1))) rfl ?_ ⟨fun h => by omega, fun _ => ⟨rfl, fun i1 => ⟨L1, hL1, ?_⟩⟩⟩
    · exact sub_skip (dis_upd hdm hbm.2)
    · simp only [PL.cut, hcn]
      exact hM2.reI i1
  rcases Nat.lt_or_ge n p.ds.length with hlt | hge
  · obtain ⟨a, c, hov⟩ := slr_len hS
    subst hov
    obtain ⟨bo, oo, rfl, _, _, hsp⟩ := SlR.spot hS (by simp; omega)
    have hel := hsp (C := ⟨Tryz.prog, 70, w, m⟩) (ph := []) (m := m1) (KN.mem (by simp)) n (gDone (p.ds.getD n zDone)) (by rw [List.getElem?_map, List.getD_eq_getElem?_getD, List.getElem?_eq_getElem hlt]; rfl)
    simp only [List.length_map] at hs1
    simp (maxSteps := 2000000) only [c_oplog_Log_Cut_L0, vc_seq, vc_rg, segs_n, ops_cons, vcOp, ev, look, put_mk, Nat.reduceEqDiff, ↓reduceIte, reduceCtorEq, Nat.zero_add]
    have hs3 := hs1.2.2.2.1
    refine ld_of _ hs3 rfl ?_
    simp (maxSteps := 2000000) only [vc_exit, vc_ite, thenQ_n, thenQ_e, kKeep_eq, segs_nil, segs_n, segs_g, ops_nil, ops_cons, vcOp, RO.isGh, skip_mk, skipL, ev, look, put_mk, keep_mk, keepL, binV, binC, Value.oneCell', cond_true, cond_false, Nat.reduceEqDiff, ↓reduceIte, reduceCtorEq, Nat.zero_add, Bool.true_and, Bool.not_true, true_and, decide_eq_true_eq, decide_eq_false_iff_not, ↓br_ft, br_t]
    refine ⟨fun _ => ?_, fun h => by omega⟩
    refine ld_of _ hs3 rfl ?_
    simp (maxSteps := 2000000) only [ops_cons, vcOp, ev, look, put_mk, Nat.reduceEqDiff, ↓reduceIte, reduceCtorEq, Nat.add_zero, Int.toNat_natCast]
    refine ⟨⟨by omega, by omega⟩, ?_⟩
    refine ld_of _ (seen_fst (seen_fst (seen_fst hel))) rfl ?_
    simp (maxSteps := 2000000) only [vc_skip, vc_exit, vc_seq, vc_block, vc_rgq, vc_ite, thenQ_n, thenQ_e, kKeep_eq, segs_nil, segs_n, ops_nil, ops_cons, qsegs_n, qops_cons, vcqOp, vcOp, isRd, ev, look, put_mk, keep_mk, keepL, binV, binC, Value.oneCell', cond_true, Nat.reduceEqDiff, ↓reduceIte, reduceCtorEq, Nat.zero_add, Bool.true_and, true_and, decide_eq_true_eq, decide_eq_false_iff_not, ↓br_tt, br_t]
    refine ⟨fun hle => ?_, fun hle => ?_⟩
    · have hs2 := hs1.2.1
      rw [hL1] at hs2
      refine ld_of _ hs2 rfl ?_
      simp (maxSteps := 2000000) only [ptr, qops_cons, vcqOp, vcOp, isRd, ev, look, put_mk, ↓reduceIte, reduceCtorEq, Nat.zero_add, Bool.true_and, true_and, ptr]
      refine ld_of _ hs3 rfl ?_
      simp (maxSteps := 2000000) only [qops_cons, vcqOp, vcOp, isRd, ev, look, put_mk, Nat.reduceEqDiff, ↓reduceIte, reduceCtorEq, Nat.add_zero, Bool.true_and, true_and, Int.toNat_natCast]
      refine ⟨⟨by omega, by omega⟩, ?_⟩
      refine ld_of _ (seen_fst hel) (gOp_fits _) ?_
      simp (maxSteps := 2000000) only [segs_n, ops_cons, qsegs_nil, qops_nil, vcOp, put_mk]
      obtain ⟨d, hd⟩ : ∃ d, p.ds.getD n zDone = d := ⟨_, rfl⟩
      have hdm : d ∈ p.ds := hd ▸ getD_in hlt zDone
      rw [hd] at hle ⊢
      have hop := hg.ops d hdm
      obtain ⟨mB1, mr1, hm1, hdm1, hB1, hback⟩ := hM.base
      have hok : (ideal p.B ((p.ds.take n).map (·.op))).ok q := by
        have := ideal_ok (l := (p.ds.take n).map (·.op)) hg.bok fun op h => by
          obtain ⟨x, hx, rfl⟩ := List.mem_map.1 h
          exact hg.ops x (List.mem_of_mem_take hx)
        refine this.up ?_
        have := hg.many
        simp only [List.length_map, List.length_take]
        omega
      refine call_with mB1 mr1 (dOk_spec rfl) rfl hm1 hdm1 (Q := fun rs m' => (∃ a c, rs = [a, c]) ∧ ∃ L2, L2 .t = Lb .t ∧ TM m' L2 ((ideal p.B ((p.ds.take n).map (·.op))).step d.op)) (fun w' vs hv _ _ => ?_) fun rs mB' _ hq1 hdB => ?_
      · obtain ⟨vs, rfl, _, hv⟩ := argsV_g hv
        obtain ⟨vs, rfl, _, hv⟩ := argsV_g hv
        obtain rfl := argsV_nil hv
        have := (Do_spec w' mB1 L1 (ideal p.B ((p.ds.take n).map (·.op))) d.op hop.2 (ok_fits hok (by omega)) hB1).mono fun rs m' h => (show (∃ a c, rs = [a, c]) ∧ ∃ L2, L2 .t = L1 .t ∧ TM m' L2 ((ideal p.B ((p.ds.take n).map (·.op))).step d.op) from by
          cases hmay : mayA (ideal p.B ((p.ds.take n).map (·.op))) d.op with
          | false => exact ⟨⟨_, _, (h.1 hmay).1⟩, L1, rfl, by rw [step_no hmay]; exact (h.1 hmay).2⟩
          | true =>
            obtain ⟨L2, e1, e2, e3, e4⟩ := h.2 hmay
            exact ⟨⟨_, _, e3⟩, L2, e1, by rw [step_yes hmay]; exact e4⟩)
        rw [hL1] at this
        exact this
      obtain ⟨⟨ra, rc, rfl⟩, L2, h21, hT2⟩ := hq1
      simp (maxSteps := 2000000) only [retS, vc_rg, thenQ_n, blockQ_n, kKeep_eq, segs_nil, segs_n, ops_nil, ops_cons, vcOp, ev, look, put_mk, keep_mk, keepL, binV, binC, Value.oneCell', cond_true, Nat.reduceEqDiff, ↓reduceIte, reduceCtorEq, Bool.true_and, true_and]
      subst hQ; simp only [loopQ_n]; refine ⟨(n + 1, L2, uni mB' mr1), ?_, ?_, ge_of ?_ ?_ rfl rfl rfl⟩
      · refine ⟨by simp only; omega, fun j hj' => ?_, h21, ?_⟩
        · rcases Nat.lt_succ_iff_lt_or_eq.1 hj' with h4 | rfl
          · exact hj j h4
          · rw [hd]; exact hle
        · simp only
          have := hback (h21.trans hL1.symm) hT2 hdB
          rw [take_at hlt zDone, hd, List.map_append, List.map_cons, List.map_nil, ideal_snoc]
          exact this
      · simp only; omega
      · simp only [frIn, look, Nat.reduceEqDiff, ↓reduceIte, reduceCtorEq, Bool.and_true, Bool.true_and, true_and, and_true]
        rw [wrap_n (by omega)]
        try simp
      · simp [pvIn, look]
    · exact stop (fun _ => hle) _ (ge_of (by simp [frIn, look]) (by simp [pvIn, look]) rfl rfl rfl)
  · obtain ⟨a, c, hov⟩ := slr_len hS
    subst hov
    simp only [List.length_map] at hs1
    simp (maxSteps := 2000000) only [c_oplog_Log_Cut_L0, vc_seq, vc_rg, segs_n, ops_cons, vcOp, ev, look, put_mk, Nat.reduceEqDiff, ↓reduceIte, reduceCtorEq, Nat.zero_add]
    refine ld_of _ hs1.2.2.2.1 rfl ?_
    simp (maxSteps := 2000000) only [vc_exit, vc_ite, thenQ_n, thenQ_e, kKeep_eq, segs_nil, segs_n, segs_g, ops_nil, ops_cons, vcOp, RO.isGh, skip_mk, skipL, ev, look, put_mk, keep_mk, keepL, binV, binC, Value.oneCell', cond_true, cond_false, Nat.reduceEqDiff, ↓reduceIte, reduceCtorEq, Nat.zero_add, Bool.true_and, Bool.not_true, true_and, decide_eq_true_eq, decide_eq_false_iff_not, ↓br_ft, br_t]
    refine ⟨fun h => by omega, fun _ => ?_⟩
    exact stop (fun h => by omega) _ (ge_of (by simp [frIn, look]) (by simp [pvIn, look]) rfl rfl rfl)
end Go.Proofs.YtmjiojflncffeaaGreat.Vc

/- A log that operations come to: in steps; what the law asks of every log first. -/
set_option linter.unusedVariables false
set_option linter.unusedSimpArgs false
set_option maxRecDepth 100000
namespace Go.Proofs.YtmjiojflncffeaaGreat.Vc
open Go Go.Proofs Go.Proofs.YtmjiojflncffeaaGreat Go.ChangeShapes Go.WideShapes Go.ChangeAt

/-- How many may have been done, where so many are there. -/
def tri (n : Nat) : Nat := n * (n + 1) / 2
theorem tri_step (n c : Nat) (hc : 1 ≤ c) : tri n + n + c ≤ tri (n + c) := by
  unfold tri
  obtain ⟨d, rfl⟩ : ∃ d, c = d + 1 := ⟨c - 1, by omega⟩
  have e : (n + (d + 1)) * (n + (d + 1) + 1) = n * (n + 1) + 2 * (n + (d + 1)) + (2 * (n * d) + d * (d + 1)) := by
    simp only [Nat.mul_add, Nat.add_mul, Nat.mul_one, Nat.one_mul]
    rw [Nat.mul_comm d n]
    omega
  have h1 : (n + (d + 1)) * (n + (d + 1) + 1) / 2 ≥ (n * (n + 1) + 2 * (n + (d + 1))) / 2 := Nat.div_le_div_right (by omega)
  have h2 : (n * (n + 1) + 2 * (n + (d + 1))) / 2 = n * (n + 1) / 2 + (n + (d + 1)) := by omega
  omega
theorem tri_le {n : Nat} (h : n ≤ 1200000) : tri n ≤ 720000600000 := by
  unfold tri
  have : n * (n + 1) ≤ 1200000 * 1200001 := Nat.mul_le_mul h (by omega)
  omega
theorem PL.good.up {p : PL} {mk : Value} {kb q q' : Nat} (h : p.good mk kb q) (hq : q ≤ q') : p.good mk kb q' := ⟨h.fl.up hq, h.bok, h.bgood, by have := h.many; omega, h.ris, h.ops⟩

theorem ops_len {p p' : PL} {ops : List Op} {n : Int} (h : Added p ops p' n) : p'.ds.length = p.ds.length + ops.length := by
  have := h.perm.length_eq
  simpa using this
/-- A step: what Add answers, the measure with it. -/
def StepQ (b : Nat) (L Lb : Lay) (p : PL) (kb : Nat) (ops : List Op) (rs : List GV) (m' : PH) : Prop :=
  (lookE p.ds p.fr [] ops ≠ 0 → rs = [.s (.int .i64 0), .s (.int .i64 (lookE p.ds p.fr [] ops))] ∧ LogM m' b L Lb p) ∧
  (lookE p.ds p.fr [] ops = 0 → ∃ L' p' n, L' .t = L .t ∧ L' .mk = L .mk ∧ rs = [.s (.int .i64 n), .s (.int .i64 0)] ∧ LogM m' b L' Lb p' ∧ p'.good (ptr (L .mk)) kb (tri p'.ds.length) ∧ Added p ops p' n)
theorem step_spec (w : World) (m : PH) (b : Nat) (L Lb : Lay) (p : PL) (hL : LogM m b L Lb p) {kb : Nat} (hg : p.good (ptr (L .mk)) kb (tri p.ds.length)) (v : Value) (ops : List Op) (ho : ∀ op ∈ ops, OpIn op ∧ OpOk op) (h1 : 1 ≤ ops.length) (hS : SlR (but w m) v 8 (ops.map gOp)) (hfew : p.ds.length ≤ 1048576) (hsum : p.ds.length + ops.length ≤ 1200000) (hon : ops.length ≤ 1048576) :
    Spec Tryz.prog f_oplog_Log_Add [ptr b, v] m w (StepQ b L Lb p kb ops) := by
  have ht := tri_step p.ds.length ops.length h1
  have ht2 := tri_le hsum
  refine (add_spec w m b L Lb p hL hg v ops ⟨hon, ho⟩ hS (by omega) hfew).mono fun rs m' h => ⟨h.1, fun h0 => ?_⟩
  obtain ⟨L', p', n, e1, e2, e3, e4, e5, e6⟩ := h.2 h0
  exact ⟨L', p', n, e1, e2, e3, e4, e5.up (by rw [ops_len e6]; exact ht), e6⟩

/-- What is wrong with one operation. -/
theorem lookE_one (ds : List Done) (fr : Int) (op : Op) : lookE ds fr [] [op] = if checkE op ≠ 0 then checkE op else if op.stamp.time ≤ fr then 130 else if hasA ds op.k = true then 5 else 0 := by
  simp only [lookE, List.not_mem_nil, or_false]

def liveOp : Op := ⟨⟨1, 0⟩, 1, 24, 1, ⟨#[97]⟩, ⟨#[]⟩, ⟨#[]⟩⟩
theorem liveOp_in : OpIn liveOp ∧ OpOk liveOp := ⟨⟨by decide, by decide, by decide⟩, by decide, by decide⟩
theorem liveOp_check : checkE liveOp = 0 := by decide +kernel
theorem liveOp_may : mayA T0 liveOp = true := by decide +kernel
theorem liveOp_told : (nodesTold (T0.step liveOp)).length = 1 := by
  rw [step_yes liveOp_may]
  have hp : (nodesK (T0.does liveOp)).Perm [1, 2, 24] := List.mergeSort_perm _ _
  have hl := ((hp.filterMap fun n => ((T0.does liveOp).get n).map fun x => toldOf n x).filter TN.shown).length_eq
  show ((List.filterMap _ _).filter _).length = 1
  rw [hl]
  have h1 : (T0.does liveOp).get 1 = some ⟨0, ⟨#[]⟩, [], [24]⟩ := rfl
  have h2 : (T0.does liveOp).get 2 = some ⟨0, ⟨#[]⟩, [], []⟩ := rfl
  have h3 : (T0.does liveOp).get 24 = some ⟨1, ⟨#[97]⟩, [], []⟩ := rfl
  simp [h1, h2, h3, List.filterMap_cons, toldOf, TN.shown, attrsOf, attrKeys, sortB, topB, List.filter_cons]
/-- One operation, put to a log. -/
theorem one_split {w' : World} {m1 : PH} {b : Nat} {L Lb : Lay} {p : PL} (hL : LogM m1 b L Lb p) {kb : Nat} (hg : p.good (ptr (L .mk)) kb (tri p.ds.length)) (hfew : p.ds.length ≤ 1048576) {v' : Value} {op : Op} (ho : OpIn op ∧ OpOk op) (hs : SlR (but w' m1) v' 8 [gOp op]) :
    Spec Tryz.prog f_oplog_Log_Add [ptr b, v'] m1 w' (StepQ b L Lb p kb [op]) :=
  step_spec w' m1 b L Lb p hL hg v' [op] (by simpa using ho) (by simp) hs hfew (by simp; omega) (by simp)
theorem live13_spec (w : World) : Spec Tryz.prog f_law13_live [] PH.no w fun rs _ => rs = [.s (.bool true)] := by
  refine spec_val k_law13_live (Qf := fun rs => rs = [.s (.bool true)]) [] (by simp) (by simp [AV.ok]) ?_
  simp (maxSteps := 2000000) only [c_law13_live, vc_seq, vc_rg, thenQ_n, kKeep_eq, segs_nil, segs_n, ops_nil, ops_cons, vcOp, ev, put_mk, keep_mk, keepL, Value.oneCell', cond_true, initF, initP, gStamp_zero, gOp_zero]
  refine call_ownm rfl rfl (Q := fun rs m' => ∃ b L Lb, rs = [.s (ptr b)] ∧ LogM m' b L Lb PL.new) (fun w' vs hv hw _ _ => ?_) fun rs m0 _ hq _ => ?_
  · obtain rfl := argsV_nil hv
    exact logNew_spec w'
  obtain ⟨b, L, Lb, rfl, hL⟩ := hq
  simp (maxSteps := 2000000) only [retS, uni_no_r, vc_seq, vc_rg, thenQ_n, kKeep_eq, segs_nil, segs_n, ops_nil, ops_cons, vcOp, ev, look, put_mk, keep_mk, keepL, Value.oneCell', cond_true, ↓reduceIte, ptr]
  refine eq_of (eqLog b) ?_
  simp (maxSteps := 2000000) only [vc_skip, vc_seq, vc_rg, vc_ite, thenQ_n, kKeep_eq, segs_nil, segs_n, ops_nil, ops_cons, vcOp, ev, evL, gvL, look, updL, put_mk, keep_mk, keepL, GV.getT, GV.same, Value.oneCell', cond_true, Nat.reduceEqDiff, ↓reduceIte, Nat.zero_add, Bool.and_true, Bool.true_and, true_and, and_true, List.map_cons, List.map_nil, Option.map_some, szAll, List.length_cons, List.length_nil, ↓br_ft, Bool.bne_false, GV.bldT, GV.bldC, same_int, getT_nil, gStamp_same, gStamp_get0, gStamp_set0, gOp_sz, gOp_get0, gOp_set0, gOp_get1, gOp_set1, gOp_get2, gOp_set2, gOp_get3, gOp_set3, gOp_get4, gOp_set4]
  refine ⟨rfl, ⟨rfl, rfl, rfl, rfl, rfl⟩, ?_⟩
  refine call_split m0 PH.no rfl rfl (uni_no_r _).symm (dis_no_r _) (Q := StepQ b L Lb PL.new 0 [liveOp]) (fun w' vs hv _ _ _ => ?_) fun rs m1 _ hq _ => ?_
  · obtain ⟨vs, rfl, _, hv⟩ := argsB_g hv
    obtain ⟨v', vs, rfl, hs, hv⟩ := argsB_row (z := 8) (xs := [gOp liveOp]) rfl rfl hv
    obtain rfl := argsB_nil hv
    exact one_split hL (PL.new_good _) (by decide) liveOp_in hs
  have hlk : lookE PL.new.ds PL.new.fr [] [liveOp] = 0 := by rw [lookE_one, liveOp_check]; decide
  obtain ⟨L', p', n, hL1, hL2, rfl, hM, hg, hA⟩ := hq.2 hlk
  simp (maxSteps := 2000000) only [retS, List.getElem?_cons_succ, List.getElem?_cons_zero, uni_no_r, vc_ret, vc_seq, vc_rg, thenQ_n, kKeep_eq, segs_nil, segs_n, segs_g, ops_nil, ops_cons, vcOp, RO.isGh, skip_mk, skipL, ev, look, put_mk, keep_mk, keepL, binV, binC, Value.oneCell', cond_true, cond_false, Nat.reduceEqDiff, ↓reduceIte, Bool.true_and, Bool.not_true, BEq.rfl, true_and, finW_r, resL, resOne, ↓br_tt, ↓br_ft, br_t]
  have hlen : p'.ds.length = 1 := ops_len hA
  obtain ⟨d, hd⟩ : ∃ d, p'.ds = [d] := List.length_eq_one_iff.1 hlen
  have hop : d.op = liveOp := by
    have := hA.perm
    rw [hd] at this
    have := this.mem_iff (a := d.op)
    simpa [PL.new] using this
  have htk : d.taken = true := by
    have hh := hg.fl.hist
    rw [hd] at hh
    have := LHist.taken (ds := []) hh
    rw [hop, hA.B] at this
    rw [this]
    exact liveOp_may
  have hn : n = 1 := by
    rw [hA.n, hd]
    have : d.k = liveOp.k := by show d.op.k = _; rw [hop]
    simp [List.filter_cons, htk, this]
  subst hn
  simp (maxSteps := 2000000) only [Bool.and_true, BEq.rfl, and_true, true_imp_iff, false_imp_iff, Bool.true_eq_false]
  refine call_ism _ [.s (.int .i64 1)] rfl rfl (fun w' vs hv _ _ hm => ?_) ?_
  · obtain ⟨vs, rfl, _, hv⟩ := argsV_g hv
    obtain rfl := argsV_nil hv
    have := logLen_spec hm hM
    rw [hlen] at this
    exact this
  simp (maxSteps := 2000000) only [retS, segs_n, segs_g, ops_nil, ops_cons, vcOp, ev, look, put_mk, binV, binC, Value.oneCell', cond_true, Nat.reduceEqDiff, ↓reduceIte, Bool.true_and, BEq.rfl, true_and, ↓br_tt]
  have hfr : p'.fr = 0 := hA.fr
  refine call_all rfl rfl (Q := fun rs m' => rs = [.s (.int .i64 0)] ∧ ∀ i1, ∃ Lb', Lb' .t = Lb .t ∧ LogM m' b L' Lb' (p'.cut 1 i1)) (fun w' vs hv _ _ => ?_) fun rs m2 _ hq2 => ?_
  · obtain ⟨vs, rfl, _, hv⟩ := argsV_g hv
    obtain ⟨vs, rfl, _, hv⟩ := argsV_g hv
    obtain rfl := argsV_nil hv
    exact (cut_spec w' m1 b L' Lb p' hM hg (by rw [hlen]; decide) (by omega) 1).mono fun rs m' h => h.2 (by rw [hfr]; decide)
  obtain ⟨rfl, hcut⟩ := hq2
  obtain ⟨i1, hgc⟩ := hg.cut 1
  obtain ⟨Lb', _, hMc⟩ := hcut i1
  have hca : cutA p'.ds 1 = 1 := by
    rw [hd]
    have : d.op.stamp.time ≤ 1 := by rw [hop]; decide
    simp [cutA, List.takeWhile_cons, this]
  have hds : (p'.cut 1 i1).ds = [] := by
    show p'.ds.drop (cutA p'.ds 1) = []
    rw [hca, hd]; rfl
  have hB : (p'.cut 1 i1).B = T0.step liveOp := by
    show ideal p'.B ((p'.ds.take (cutA p'.ds 1)).map (·.op)) = _
    rw [hca, hd, hA.B]
    show ideal T0 [d.op] = _
    rw [hop]; rfl
  simp (maxSteps := 2000000) only [retS, segs_n, segs_g, ops_nil, ops_cons, vcOp, ev, look, put_mk, binV, binC, Value.oneCell', cond_true, Nat.reduceEqDiff, ↓reduceIte, Bool.true_and, BEq.rfl, true_and, ↓br_tt]
  refine call_ism _ [.s (.int .i64 0)] rfl rfl (fun w' vs hv _ _ hm => ?_) ?_
  · obtain ⟨vs, rfl, _, hv⟩ := argsV_g hv
    obtain rfl := argsV_nil hv
    have := logLen_spec hm hMc
    rw [hds] at this
    exact this
  simp (maxSteps := 2000000) only [retS, segs_n, segs_g, ops_nil, ops_cons, vcOp, ev, look, put_mk, binV, binC, Value.oneCell', cond_true, Nat.reduceEqDiff, ↓reduceIte, Bool.true_and, BEq.rfl, true_and, ↓br_tt]
  refine call_frzm rfl rfl (Q := fun rs m' => ∃ v ts, rs = [.s v] ∧ SlR m' v 4 (ts.map gTreeNode) ∧ TsOk m' ts (nodesTold (p'.cut 1 i1).B)) (fun w' vs hv _ _ hm => ?_) fun rs m3 _ hq3 => ?_
  · obtain ⟨vs, rfl, _, hv⟩ := argsV_g hv
    obtain rfl := argsV_nil hv
    exact logBase_spec hm hMc hgc (by rw [hlen]; decide)
  obtain ⟨v, ts, rfl, hs, hts⟩ := hq3
  rw [hB] at hts
  have htl := hts.len
  rw [liveOp_told] at htl
  obtain ⟨a, c, rfl⟩ := slr_len hs
  simp (maxSteps := 2000000) only [retS, List.length_map, htl, vc_ret, thenQ_n, kKeep_eq, segs_nil, segs_n, ops_nil, ops_cons, vcOp, ev, look, put_mk, keep_mk, keepL, binV, binC, Value.oneCell', cond_true, Nat.reduceEqDiff, ↓reduceIte, Bool.true_and, true_and, finW_r, resL, resOne, ↓br_tt, List.length_map]
  rfl
/-- Operations that came in: what is asked of them. -/
theorem open_OpsIn {H : Type} {enc : TypeId × Value → H} {W : World} {base n : Nat} {v : Value} (h : RdB enc Tryz.prog W 22 v n) (hv : Value.okWide Tryz.prog W .any base 22 v) : ∃ l : List Op, SlR W.ph v 8 (l.map gOp) ∧ l.length ≤ n ∧ ∀ op ∈ l, OpIn op ∧ OpOk op := by
  have hd := rdv_slice (e := 26) (by kernel_rfl) h.v hv
  obtain ⟨l, h1, _, h3⟩ := rd_slice (t := 22) (e := 26) (n0 := 9) (ks := kOp) (g := fun q => gOp (Op.ofRaw q 0)) (by kernel_rfl) (by kernel_rfl) (by kernel_rfl) (by rw [cells_Op]; omega) (fun q => gOp_flat q 0) (fun q _ => gOp_ok _) (fun q => by rw [gOp_sz, cells_Op]) hd
  rw [cells_Op] at h1
  refine ⟨l.map fun q => Op.ofRaw q 0, by rw [List.map_map]; exact h1, ?_, ?_⟩
  · obtain ⟨fuel, x, hx, _, hn⟩ := h
    obtain ⟨_, h1 | ⟨a, c, h1, _⟩⟩ := h1
    · have : l = [] := by simpa using h1.2
      simp [this]
    · subst h1
      have hx' : DataW.trod enc Tryz.prog W 0 (fun _ => true) true fuel 22 [.slice (some a) (l.map fun q => gOp (Op.ofRaw q 0)).length c] = some x := hx
      rcases Go.Deep.open_slice (e := 26) (by kernel_rfl) hx' with ⟨hv', rfl⟩ | ⟨a', len, cap, m, n', D, Pl, hv', _, hlc, _, hm, rfl, hel⟩
      · simp at hv'
      · simp only [List.cons.injEq, Value.slice.injEq, and_true, List.length_map] at hv'
        have h5 := bulk_len ((List.range len).map D)
        rw [List.length_map, List.length_range] at h5
        simp only [Rows.uptoBulk] at hn
        rw [List.length_map]
        omega
  · intro op hop
    obtain ⟨q, hq, rfl⟩ := List.mem_map.1 hop
    have hf := h3 q hq
    have i3 := hf.int (j := 3) (k := .i64) rfl
    have i4 := hf.int (j := 4) (k := .i64) rfl
    have s5 := hf.str (j := 5) rfl
    have em : IntKind.i64.max = 9223372036854775807 := by decide
    refine ⟨⟨?_, ?_, Nat.le_trans s5 (by decide)⟩, ?_, Nat.le_trans s5 (by decide)⟩
    · show q.x 3 < _
      have := i3.2; rw [em] at this; omega
    · show q.x 4 < _
      have := i4.2; rw [em] at this; omega
    · show (decide (IntKind.i64.min ≤ q.x 3) && decide (q.x 3 ≤ IntKind.i64.max)) = true
      rw [Bool.and_eq_true]
      exact ⟨decide_eq_true i3.1, decide_eq_true i3.2⟩
/-- One operation that came in. -/
theorem open_OpIn {H : Type} {enc : TypeId × Value → H} {W : World} {base n : Nat} {v : Value} (h : RdB enc Tryz.prog W 26 v n) (hv : Value.okWide Tryz.prog W .any base 26 v) : ∃ op : Op, v = (gOp op).val ∧ OpIn op ∧ OpOk op := by
  obtain ⟨q, rfl, hf⟩ := rdv_agg (n0 := 9) (ks := kOp) (g := fun q => gOp (Op.ofRaw q 0)) (by kernel_rfl) (by kernel_rfl) (fun q => gOp_flat q 0) (fun q v e => by cases e) h.v hv
  have i3 := hf.int (j := 3) (k := .i64) rfl
  have i4 := hf.int (j := 4) (k := .i64) rfl
  have s5 := hf.str (j := 5) rfl
  have em : IntKind.i64.max = 9223372036854775807 := by decide
  refine ⟨_, rfl, ⟨?_, ?_, Nat.le_trans s5 (by decide)⟩, ?_, Nat.le_trans s5 (by decide)⟩
  · show q.x 3 < _
    have := i3.2; rw [em] at this; omega
  · show q.x 4 < _
    have := i4.2; rw [em] at this; omega
  · show (decide (IntKind.i64.min ≤ q.x 3) && decide (q.x 3 ≤ IntKind.i64.max)) = true
    rw [Bool.and_eq_true]
    exact ⟨decide_eq_true i3.1, decide_eq_true i3.2⟩
end Go.Proofs.YtmjiojflncffeaaGreat.Vc

/- The code of some functions of the program, its types resolved: printed by a program of this claim. -/
set_option linter.unusedVariables false
set_option maxRecDepth 100000
namespace Go.Proofs.YtmjiojflncffeaaGreat.Vc
open Go Go.Proofs

abbrev f_law13_OplogRedoes : Nat := 3
def c_law13_OplogRedoes_L0 : Cd :=
 (.seq (.rg [⟨none, [(some 24, .bin .lss (.t 23) (.t 22))]⟩] [3, 5, 6, 21, 22, 23, 24])
 (.seq (.ite (.t 24)
 .skip
 (.exit 0))
 (.seq (.block 1 (.seq (.rg [⟨none, [(some 25, .idxS (.t 21) (.t 23) 8), (some 26, .ld (.t 25) 8 true), (some 8, .new 26 (.c (.c (.s (.int .i64 0)) (.c (.s (.int .i64 0)) .u)) (.c (.s (.int .i64 0)) (.c (.s (.int .i64 0)) (.c (.s (.int .i64 0)) (.c (.s (.string ⟨#[]⟩)) (.c (.s (.string ⟨#[]⟩)) (.c (.s (.string ⟨#[]⟩)) .u)))))))), (none, .st (.t 8) (.t 26) 8)]⟩] [3, 5, 6, 8, 21, 22, 23])
 (.seq (.rg [⟨none, [(some 28, .mv (.t 5)), (some 29, .ld (.t 8) 8 true), (some 30, .bldS 26 8 (.c (.c (.s (.int .i64 0)) (.c (.s (.int .i64 0)) .u)) (.c (.s (.int .i64 0)) (.c (.s (.int .i64 0)) (.c (.s (.int .i64 0)) (.c (.s (.string ⟨#[]⟩)) (.c (.s (.string ⟨#[]⟩)) (.c (.s (.string ⟨#[]⟩)) .u))))))) [(.t 29)]), (some 31, .call 14 [(.t 28), (.t 30)]), (some 27, .mv (.t 31)), (some 32, .ext (.t 27) 0), (some 33, .ext (.t 27) 1), (some 9, .mv (.t 32)), (some 10, .mv (.t 33))]⟩] [3, 5, 6, 8, 10, 21, 22, 23])
 (.seq (.rg [⟨none, [(some 34, .mv (.t 10)), (some 35, .bin .eql (.t 34) (.c (.int .i64 0))), (some 36, .mv (.t 35))]⟩, ⟨some (36, true), [(some 37, .fldA (.t 8) 0 0), (some 38, .ld (.t 37) 2 true), (some 39, .ld (.t 6) 2 true), (some 40, .call 15 [(.t 38), (.t 39)]), (some 41, .bin .gtr (.t 40) (.c (.int .i64 0)))]⟩, ⟨none, [(some 42, .pick (.t 36) (.t 41) (.c (.bool false)))]⟩] [3, 5, 6, 8, 21, 22, 23, 42])
 (.ite (.t 42)
 (.rg [⟨none, [(some 43, .fldA (.t 8) 0 0), (some 44, .ld (.t 43) 2 true), (none, .st (.t 6) (.t 44) 2)]⟩] [3, 5, 6, 21, 22, 23])
 .skip)))))
 (.rg [⟨none, [(some 45, .bin .add (.t 23) (.c (.int .i64 1))), (some 23, .mv (.t 45))]⟩] [3, 5, 6, 21, 22, 23]))))
def c_law13_OplogRedoes : Cd :=
 (.seq (.rg [⟨none, [(some 3, .box 26 (.t 1)), (some 4, .mv (.c (.bool false)))]⟩] [0, 3])
 (.seq (.rg [⟨none, [(some 13, .call 12 []), (some 5, .mv (.t 13))]⟩] [0, 3, 5])
 (.seq (.seq (.rg [⟨none, [(some 14, .mv (.t 5)), (some 15, .eqA false 27 (.t 14) (.c (.pointer none))), (some 16, .mv (.t 15))]⟩, ⟨some (16, false), [(some 17, .call 13 []), (some 18, .un .not (.t 17))]⟩, ⟨none, [(some 19, .pick (.t 16) (.c (.bool true)) (.t 18))]⟩] [0, 3, 5, 19])
 (.ite (.t 19)
 (.seq (.rg [⟨none, [(some 4, .mv (.c (.bool false)))]⟩] [4])
 .ret)
 .skip))
 (.seq (.rg [⟨none, [(some 20, .bld (.c (.s (.int .i64 0)) (.c (.s (.int .i64 0)) .u)) []), (some 6, .new 24 (.c (.s (.int .i64 0)) (.c (.s (.int .i64 0)) .u))), (none, .st (.t 6) (.t 20) 2)]⟩] [0, 3, 5, 6])
 (.seq (.seq (.rg [⟨none, [(some 21, .mv (.t 0)), (some 22, .len (.t 21)), (some 23, .mv (.c (.int .i64 0)))]⟩] [3, 5, 6, 21, 22, 23])
 (.block 0 (.loop c_law13_OplogRedoes_L0)))
 (.seq (.seq (.rg [⟨none, [(some 46, .fldA (.t 3) 0 0), (some 47, .ld (.t 46) 2 true), (some 48, .ld (.t 6) 2 true), (some 49, .call 15 [(.t 47), (.t 48)]), (some 50, .bin .leq (.t 49) (.c (.int .i64 0)))]⟩] [3, 5, 50])
 (.ite (.t 50)
 (.seq (.rg [⟨none, [(some 4, .mv (.c (.bool true)))]⟩] [4])
 .ret)
 .skip))
 (.seq (.rg [⟨none, [(some 52, .mv (.t 5)), (some 53, .ld (.t 3) 8 true), (some 54, .bldS 26 8 (.c (.c (.s (.int .i64 0)) (.c (.s (.int .i64 0)) .u)) (.c (.s (.int .i64 0)) (.c (.s (.int .i64 0)) (.c (.s (.int .i64 0)) (.c (.s (.string ⟨#[]⟩)) (.c (.s (.string ⟨#[]⟩)) (.c (.s (.string ⟨#[]⟩)) .u))))))) [(.t 53)]), (some 55, .call 14 [(.t 52), (.t 54)]), (some 51, .mv (.t 55)), (some 56, .ext (.t 51) 0), (some 57, .ext (.t 51) 1), (some 11, .mv (.t 56)), (some 12, .mv (.t 57))]⟩] [3, 5, 12])
 (.seq (.rg [⟨none, [(some 58, .mv (.t 12)), (some 59, .ld (.t 3) 8 true), (some 60, .call 16 [(.t 59)]), (some 61, .bin .eql (.t 58) (.t 60)), (some 62, .mv (.t 61))]⟩, ⟨some (62, true), [(some 63, .mv (.t 12)), (some 64, .bin .neq (.t 63) (.c (.int .i64 0))), (some 65, .mv (.t 64))]⟩, ⟨some (65, false), [(some 66, .mv (.t 5)), (some 67, .call 17 [(.t 66)]), (some 68, .bin .eql (.t 67) (.c (.int .i64 0)))]⟩, ⟨some (62, true), [(some 69, .pick (.t 65) (.c (.bool true)) (.t 68))]⟩, ⟨none, [(some 70, .pick (.t 62) (.t 69) (.c (.bool false))), (some 4, .mv (.t 70))]⟩] [4])
 .ret))))))))
theorem k_law13_OplogRedoes : Ok Tryz.prog 3 c_law13_OplogRedoes 71 [] [.tmp 4] := Ok.mk' Tryz.func3 (by kernel_rfl) (by kernel_rfl) (by kernel_rfl)

abbrev f_law13_OplogWould : Nat := 4
def c_law13_OplogWould_L0 : Cd :=
 (.seq (.rg [⟨none, [(some 25, .bin .lss (.t 24) (.t 23))]⟩] [3, 5, 6, 22, 23, 24, 25])
 (.seq (.ite (.t 25)
 .skip
 (.exit 0))
 (.seq (.block 1 (.seq (.rg [⟨none, [(some 26, .idxS (.t 22) (.t 24) 8), (some 27, .ld (.t 26) 8 true), (some 8, .new 26 (.c (.c (.s (.int .i64 0)) (.c (.s (.int .i64 0)) .u)) (.c (.s (.int .i64 0)) (.c (.s (.int .i64 0)) (.c (.s (.int .i64 0)) (.c (.s (.string ⟨#[]⟩)) (.c (.s (.string ⟨#[]⟩)) (.c (.s (.string ⟨#[]⟩)) .u)))))))), (none, .st (.t 8) (.t 27) 8)]⟩] [3, 5, 6, 8, 22, 23, 24])
 (.seq (.rg [⟨none, [(some 29, .mv (.t 5)), (some 30, .ld (.t 8) 8 true), (some 31, .bldS 26 8 (.c (.c (.s (.int .i64 0)) (.c (.s (.int .i64 0)) .u)) (.c (.s (.int .i64 0)) (.c (.s (.int .i64 0)) (.c (.s (.int .i64 0)) (.c (.s (.string ⟨#[]⟩)) (.c (.s (.string ⟨#[]⟩)) (.c (.s (.string ⟨#[]⟩)) .u))))))) [(.t 30)]), (some 32, .call 14 [(.t 29), (.t 31)]), (some 28, .mv (.t 32)), (some 33, .ext (.t 28) 0), (some 34, .ext (.t 28) 1), (some 9, .mv (.t 33)), (some 10, .mv (.t 34))]⟩] [3, 5, 6, 8, 10, 22, 23, 24])
 (.seq (.rg [⟨none, [(some 35, .mv (.t 10)), (some 36, .bin .eql (.t 35) (.c (.int .i64 0))), (some 37, .mv (.t 36))]⟩, ⟨some (37, true), [(some 38, .fldA (.t 8) 0 0), (some 39, .ld (.t 38) 2 true), (some 40, .ld (.t 6) 2 true), (some 41, .call 15 [(.t 39), (.t 40)]), (some 42, .bin .gtr (.t 41) (.c (.int .i64 0)))]⟩, ⟨none, [(some 43, .pick (.t 37) (.t 42) (.c (.bool false)))]⟩] [3, 5, 6, 8, 22, 23, 24, 43])
 (.ite (.t 43)
 (.rg [⟨none, [(some 44, .fldA (.t 8) 0 0), (some 45, .ld (.t 44) 2 true), (none, .st (.t 6) (.t 45) 2)]⟩] [3, 5, 6, 22, 23, 24])
 .skip)))))
 (.rg [⟨none, [(some 46, .bin .add (.t 24) (.c (.int .i64 1))), (some 24, .mv (.t 46))]⟩] [3, 5, 6, 22, 23, 24]))))
def c_law13_OplogWould : Cd :=
 (.seq (.rg [⟨none, [(some 3, .box 26 (.t 1)), (some 4, .mv (.c (.bool false)))]⟩] [0, 3])
 (.seq (.rg [⟨none, [(some 14, .call 12 []), (some 5, .mv (.t 14))]⟩] [0, 3, 5])
 (.seq (.seq (.rg [⟨none, [(some 15, .mv (.t 5)), (some 16, .eqA false 27 (.t 15) (.c (.pointer none))), (some 17, .mv (.t 16))]⟩, ⟨some (17, false), [(some 18, .call 13 []), (some 19, .un .not (.t 18))]⟩, ⟨none, [(some 20, .pick (.t 17) (.c (.bool true)) (.t 19))]⟩] [0, 3, 5, 20])
 (.ite (.t 20)
 (.seq (.rg [⟨none, [(some 4, .mv (.c (.bool false)))]⟩] [4])
 .ret)
 .skip))
 (.seq (.rg [⟨none, [(some 21, .bld (.c (.s (.int .i64 0)) (.c (.s (.int .i64 0)) .u)) []), (some 6, .new 24 (.c (.s (.int .i64 0)) (.c (.s (.int .i64 0)) .u))), (none, .st (.t 6) (.t 21) 2)]⟩] [0, 3, 5, 6])
 (.seq (.seq (.rg [⟨none, [(some 22, .mv (.t 0)), (some 23, .len (.t 22)), (some 24, .mv (.c (.int .i64 0)))]⟩] [3, 5, 6, 22, 23, 24])
 (.block 0 (.loop c_law13_OplogWould_L0)))
 (.seq (.rg [⟨none, [(some 48, .mv (.t 5)), (some 49, .ld (.t 3) 8 true), (some 50, .call 18 [(.t 48), (.t 49)]), (some 47, .mv (.t 50)), (some 51, .ext (.t 47) 0), (some 52, .ext (.t 47) 1), (some 11, .mv (.t 51)), (some 12, .mv (.t 52))]⟩] [3, 5, 6, 11, 12])
 (.seq (.seq (.rg [⟨none, [(some 53, .mv (.t 12)), (some 54, .bin .neq (.t 53) (.c (.int .i64 0))), (some 55, .mv (.t 54))]⟩, ⟨some (55, false), [(some 56, .fldA (.t 3) 0 0), (some 57, .ld (.t 56) 2 true), (some 58, .ld (.t 6) 2 true), (some 59, .call 15 [(.t 57), (.t 58)]), (some 60, .bin .leq (.t 59) (.c (.int .i64 0)))]⟩, ⟨none, [(some 61, .pick (.t 55) (.c (.bool true)) (.t 60))]⟩] [3, 5, 11, 12, 61])
 (.ite (.t 61)
 (.seq (.rg [⟨none, [(some 62, .mv (.t 12)), (some 63, .ld (.t 3) 8 true), (some 64, .call 16 [(.t 63)]), (some 65, .bin .eql (.t 62) (.t 64)), (some 4, .mv (.t 65))]⟩] [4])
 .ret)
 .skip))
 (.seq (.rg [⟨none, [(some 67, .mv (.t 5)), (some 68, .ld (.t 3) 8 true), (some 69, .bldS 26 8 (.c (.c (.s (.int .i64 0)) (.c (.s (.int .i64 0)) .u)) (.c (.s (.int .i64 0)) (.c (.s (.int .i64 0)) (.c (.s (.int .i64 0)) (.c (.s (.string ⟨#[]⟩)) (.c (.s (.string ⟨#[]⟩)) (.c (.s (.string ⟨#[]⟩)) .u))))))) [(.t 68)]), (some 70, .call 14 [(.t 67), (.t 69)]), (some 66, .mv (.t 70)), (some 71, .ext (.t 66) 0), (some 72, .ext (.t 66) 1), (some 13, .mv (.t 71)), (some 12, .mv (.t 72))]⟩] [11, 12, 13])
 (.seq (.rg [⟨none, [(some 73, .mv (.t 12)), (some 74, .bin .eql (.t 73) (.c (.int .i64 0))), (some 75, .mv (.t 74))]⟩, ⟨some (75, true), [(some 76, .mv (.t 13)), (some 77, .bin .eql (.t 76) (.c (.int .i64 1))), (some 78, .mv (.t 11)), (some 79, .eqA false 4 (.t 77) (.t 78))]⟩, ⟨none, [(some 80, .pick (.t 75) (.t 79) (.c (.bool false))), (some 4, .mv (.t 80))]⟩] [4])
 .ret)))))))))
theorem k_law13_OplogWould : Ok Tryz.prog 4 c_law13_OplogWould 81 [] [.tmp 4] := Ok.mk' Tryz.func4 (by kernel_rfl) (by kernel_rfl) (by kernel_rfl)

end Go.Proofs.YtmjiojflncffeaaGreat.Vc

/- OplogRedoes and OplogWould, the walks. -/
set_option linter.unusedVariables false
set_option linter.unusedSimpArgs false
set_option maxRecDepth 100000
namespace Go.Proofs.YtmjiojflncffeaaGreat.Vc
open Go Go.Proofs

/-- No operation is behind this stamp. -/
def Top (p : PL) (s : Stamp) : Prop := ∀ d ∈ p.ds, ¬ ltK s.k d.k
theorem top_add {p p' : PL} {op : Op} {n : Int} {s : Stamp} (h : Added p [op] p' n) (ht : Top p s) : (0 < rcmpA op.stamp s → Top p' op.stamp) ∧ (¬ 0 < rcmpA op.stamp s → Top p' s) := by
  have hm : ∀ d ∈ p'.ds, (∃ d0 ∈ p.ds, d0.k = d.k) ∨ d.k = op.k := fun d hd => by
    have : d.op ∈ p.ds.map (·.op) ++ [op] := h.perm.mem_iff.1 (List.mem_map.2 ⟨d, hd, rfl⟩)
    rcases List.mem_append.1 this with h1 | h1
    · obtain ⟨d0, h2, e⟩ := List.mem_map.1 h1
      exact .inl ⟨d0, h2, by show d0.op.k = d.op.k; rw [e]⟩
    · right
      show d.op.k = op.k
      rw [List.mem_singleton.1 h1]
  refine ⟨fun hc d hd => ?_, fun hc d hd => ?_⟩
  · rw [rcmpA_pos] at hc
    rcases hm d hd with ⟨d0, h1, e⟩ | e
    · rw [← e]
      exact fun hl => ht d0 h1 (ltK_trans hc hl)
    · rw [e]; exact ltK_irrefl _
  · rw [rcmpA_pos] at hc
    rcases hm d hd with ⟨d0, h1, e⟩ | e
    · rw [← e]; exact ht d0 h1
    · rw [e]; exact hc
theorem checkE_well {op : Op} (h : checkE op = 0) : Well op := fun hw => by
  rw [checkE_a hw] at h; cases h
theorem checkE_time {op : Op} (h : checkE op = 0) : 1 ≤ op.stamp.time := by
  have := checkE_well h
  unfold Well at this
  have hc : CheckP op.stamp := Classical.byContradiction fun hn => this (.inl hn)
  exact hc.1
theorem last_below {p : PL} {s : Stamp} (ht : Top p s) {last : Op} (hl : ltK s.k last.k) : ∀ d ∈ p.ds, ltK d.k last.k := fun d hd => by
  rcases ltK_tri d.k last.k with h | h | h
  · exact h
  · exact absurd (by rw [h]; exact hl) (ht d hd)
  · exact absurd (ltK_trans hl h) (ht d hd)
theorem last_look {p : PL} {s : Stamp} (ht : Top p s) {last : Op} (hl : ltK s.k last.k) (hf : p.fr = 0) : lookE p.ds p.fr [] [last] = checkE last := by
  rw [lookE_one]
  by_cases hc : checkE last = 0
  · have h1 := checkE_time hc
    have h2 : hasA p.ds last.k = false := by
      rw [hasA, decide_eq_false_iff_not]
      intro hm
      obtain ⟨d, hd, e⟩ := List.mem_map.1 hm
      have := last_below ht hl d hd
      rw [e] at this
      exact ltK_irrefl _ this
    rw [if_neg (by simp [hc]), if_neg (by omega), h2, hc]
    rfl
  · rw [if_pos hc]
/-- What is put behind all others: it is taken where it may be now. -/
theorem last_taken {p p' : PL} {mk mk' : Value} {kb q q' : Nat} {last : Op} {n : Int} {s : Stamp} (hg : p.good mk kb q) (hg' : p'.good mk' kb q') (hA : Added p [last] p' n) (ht : Top p s) (hl : ltK s.k last.k) : n = if mayA p.T last = true then 1 else 0 := by
  have hb := last_below ht hl
  have hr1 : Rising ((p.ds.map (·.op) ++ [last]).map Op.k) := by
    rw [Rising, List.map_append, List.pairwise_append]
    refine ⟨by rw [List.map_map]; exact hg.ris, by simp, fun a ha c hc => ?_⟩
    rw [List.map_map] at ha
    obtain ⟨d, hd, rfl⟩ := List.mem_map.1 ha
    rw [show c = last.k by simpa using hc]
    exact hb d hd
  have hr2 : Rising ((p'.ds.map (·.op)).map Op.k) := by rw [List.map_map]; exact hg'.ris
  have he : p'.ds.map (·.op) = p.ds.map (·.op) ++ [last] := Rising.uniq hA.perm hr2 hr1
  have hlen := ops_len hA
  rw [List.length_singleton] at hlen
  obtain ⟨ds, d, hds⟩ : ∃ ds d, p'.ds = ds ++ [d] := by
    rcases List.eq_nil_or_concat p'.ds with h | ⟨ds, d, h⟩
    · rw [h] at hlen; simp at hlen
    · exact ⟨ds, d, by rw [h, List.concat_eq_append]⟩
  rw [hds, List.map_append, List.map_cons, List.map_nil] at he
  obtain ⟨e1, e2⟩ := List.append_inj' he rfl
  have e2 : d.op = last := by simpa using e2
  have hh := hg'.fl.hist
  rw [hds] at hh
  have htk := hh.taken
  have hI := ideal_ok hg.bok (l := p.ds.map (·.op)) fun op hop => by
    obtain ⟨x, hx, rfl⟩ := List.mem_map.1 hop
    exact hg.ops x hx
  rw [hA.B, e1, e2, ← may_eq hg.tok hI hg.fl.view] at htk
  rw [hA.n, hds, count_snoc]
  have hz : (ds.filter fun d => d.taken && decide (d.k ∈ [last].map Op.k)) = [] := List.filter_eq_nil_iff.2 fun x hx => by
    have hx' : x.op ∈ p.ds.map (·.op) := by rw [← e1]; exact List.mem_map.2 ⟨x, hx, rfl⟩
    obtain ⟨y, hy, e⟩ := List.mem_map.1 hx'
    have h2 := hb y hy
    have h3 : x.k = y.k := by show x.op.k = y.op.k; rw [e]
    have : ¬ x.k = last.k := fun h4 => by rw [← h3, h4] at h2; exact ltK_irrefl _ h2
    simp [this]
  rw [hz, htk]
  have hk : d.k = last.k := by show d.op.k = _; rw [e2]
  cases mayA p.T last <;> simp [hk]
/-- A log on its way through the law. -/
structure Way1 (b : Nat) (m : PH) (L Lb : Lay) (p : PL) (s : Stamp) (i : Nat) : Prop where
  M : LogM m b L Lb p
  good : p.good (ptr (L .mk)) 0 (tri p.ds.length)
  few : p.ds.length ≤ i
  fr : p.fr = 0
  top : Top p s
theorem redoes_spec (w : World) (v : Value) (ops : List Op) (last : Op) (hb : ops.length ≤ 1048576) (ho : ∀ op ∈ ops, OpIn op ∧ OpOk op) (hl : OpIn last ∧ OpOk last) (h : SlR w.ph v 8 (ops.map gOp)) :
    Spec Tryz.prog f_law13_OplogRedoes [v, (gOp last).val] PH.no w fun rs _ => rs = [.s (.bool true)] := by
  refine spec_val k_law13_OplogRedoes (Qf := fun rs => rs = [.s (.bool true)]) [.ro v 8 (gOp zOp) (ops.map gOp), .g (gOp last)] (by simp) (by simpa [AV.ok, u0_no, gOp_ok] using h) ?_
  simp (maxSteps := 2000000) only [c_law13_OplogRedoes, vc_seq, vc_rg, thenQ_n, kKeep_eq, segs_nil, segs_n, ops_nil, ops_cons, vcOp, ev, look, updL, put_mk, keep_mk, keepL, Value.oneCell', cond_true, Nat.reduceEqDiff, ↓reduceIte, reduceCtorEq, Nat.zero_add, Bool.true_and, true_and, initF, initP, List.length_map, gStamp_zero, gOp_zero]
  refine call_ownm rfl rfl (Q := fun rs m' => ∃ b L Lb, rs = [.s (ptr b)] ∧ LogM m' b L Lb PL.new) (fun w' vs hv hw _ _ => ?_) fun rs m0 _ hq _ => ?_
  · obtain rfl := argsV_nil hv
    exact logNew_spec w'
  obtain ⟨b, L0, Lb, rfl, hL⟩ := hq
  simp (maxSteps := 2000000) only [retS, uni_no_r, vc_seq, vc_rg, thenQ_n, kKeep_eq, segs_nil, segs_n, ops_nil, ops_cons, vcOp, ev, look, put_mk, keep_mk, keepL, Value.oneCell', cond_true, Nat.reduceEqDiff, ↓reduceIte, reduceCtorEq, ptr]
  refine eq_of (eqLog b) ?_
  simp (maxSteps := 2000000) only [segs_g, ops_nil, ops_cons, vcOp, ev, look, put_mk, ↓reduceIte, ↓br_ff, Bool.bne_false]
  refine call_ism _ [.s (.bool true)] rfl rfl (fun w' vs hv _ _ hm => ?_) ?_
  · obtain rfl := argsV_nil hv
    exact live13_spec w'
  simp (maxSteps := 2000000) only [retS, vc_skip, vc_seq, vc_block, vc_rg, vc_ite, thenQ_n, kKeep_eq, segs_nil, segs_n, ops_nil, ops_cons, vcOp, ev, evL, gvL, look, updL, put_mk, put_mk0, keep_mk, keepL, unV, Value.oneCell', cond_true, Nat.reduceEqDiff, ↓reduceIte, reduceCtorEq, Bool.and_true, Bool.true_and, Bool.not_true, true_and, and_true, List.map_nil, ↓br_ft, GV.bldT, GV.bldC, getT_nil, setT_nil, gStamp_sz, gStamp_same]
  refine vc_loop (ι := Nat × Lay × PL × PH × Stamp) (fun x => ⟨[(3, .ref 3 []), (5, .g (.s (.pointer (some ⟨b, 0, none⟩)))), (6, .ref 6 []), (21, .row 0 0 (ops.length)), (22, .g (.s (.int .i64 (ops.length)))), (23, .g (.s (.int .i64 (x.1))))], [(0, .ro 8 (gOp zOp) (ops.map gOp)), (3, .box (gOp last)), (6, .box (gStamp x.2.2.2.2))], [], x.2.2.2.1⟩)
    (fun x => x.1 ≤ ops.length ∧ Way1 b x.2.2.2.1 x.2.1 Lb x.2.2.1 x.2.2.2.2 x.1) (fun x => ops.length - x.1) (0, L0, PL.new, m0, zStamp) ⟨by simp, hL, (PL.new_good _).up (Nat.zero_le _), Nat.le_refl _, rfl, fun d hd => by cases hd⟩ (ge_of ?_ ?_ rfl rfl rfl) ?_
  · simp [frIn, look]
  · simp [pvIn, look]
  rintro ⟨i, L, p, m, s⟩ ⟨hi, hM, hg, hfew, hfr, htop⟩
  simp only at hi hM hg hfew hfr htop
  generalize hQ : loopQ _ _ _ _ _ = Q
  simp (maxSteps := 2000000) only [c_law13_OplogRedoes_L0, vc_skip, vc_exit, vc_seq, vc_block, vc_rg, vc_ite, thenQ_n, thenQ_e, kKeep_eq, segs_nil, segs_n, ops_nil, ops_cons, vcOp, ev, evL, gvL, look, updL, put_mk, put_mk0, keep_mk, keepL, rowE, rowD, binV, binC, Nat.reduceEqDiff, ↓reduceIte, reduceCtorEq, Nat.zero_add, Bool.and_true, Bool.true_and, true_and, and_true, Option.map_some, szAll, List.length_cons, List.length_nil, Int.toNat_natCast, decide_eq_true_eq, decide_eq_false_iff_not, br_t, getT_nil, setT_nil, gStamp_zero, gOp_sz, gOp_fits, gOp_same, gOp_zero, getD_gOp]
  refine ⟨fun hlt => ⟨⟨by omega, by omega⟩, ?_⟩, fun hge => ?_⟩
  · have hil : i < ops.length := by omega
    obtain ⟨op, hop⟩ : ∃ op, ops.getD i zOp = op := ⟨_, rfl⟩
    have hoo := ho op (hop ▸ getD_in hil zOp)
    rw [hop]
    refine call_split m PH.no rfl rfl (uni_no_r _).symm (dis_no_r _) (Q := StepQ b L Lb p 0 [op]) (fun w' vs hv _ _ _ => ?_) fun rs m1 _ hq _ => ?_
    · obtain ⟨vs, rfl, _, hv⟩ := argsB_g hv
      obtain ⟨v', vs, rfl, hs, hv⟩ := argsB_row (z := 8) (xs := [gOp op]) rfl rfl hv
      obtain rfl := argsB_nil hv
      exact one_split hM hg (by omega) hoo hs
    by_cases hlk : lookE p.ds p.fr [] [op] = 0
    · obtain ⟨L', p', n, hL1, hL2, rfl, hM', hg', hA⟩ := hq.2 hlk
      obtain ⟨ht1, ht2⟩ := top_add hA htop
      have hpl := ops_len hA
      rw [List.length_singleton] at hpl
      have way : ∀ s', Top p' s' → Way1 b m1 L' Lb p' s' (i + 1) := fun s' ht => ⟨hM', by rw [hL2]; exact hg', by omega, hA.fr.trans hfr, ht⟩
      simp (maxSteps := 2000000) only [retS, List.getElem?_cons_succ, List.getElem?_cons_zero, uni_no_r, vc_seq, vc_rg, thenQ_n, kKeep_eq, segs_nil, segs_n, segs_g, ops_nil, ops_cons, vcOp, ev, look, put_mk, keep_mk, keepL, binV, binC, Value.oneCell', cond_true, Nat.reduceEqDiff, ↓reduceIte, reduceCtorEq, List.nil_append, Bool.true_and, BEq.rfl, true_and, ↓br_tt, getT_nil, gStamp_fits, gOp_fld0, gOp_get0]
      refine call_fnv (rcompare_fn op.stamp s) rfl rfl rfl fun _ => ?_
      simp (maxSteps := 2000000) only [retS, gt_iff_lt, vc_skip, vc_rg, vc_ite, thenQ_n, blockQ_n, kKeep_eq, segs_nil, segs_n, ops_nil, ops_cons, vcOp, ev, look, updL, put_mk, put_mk0, keep_mk, keepL, binV, binC, Value.oneCell', cond_true, Nat.reduceEqDiff, ↓reduceIte, reduceCtorEq, List.nil_append, Bool.and_true, Bool.true_and, true_and, and_true, decide_eq_true_eq, decide_eq_false_iff_not, ↓br_tt, br_t, getT_nil, setT_nil, gStamp_sz, gStamp_fits, gStamp_same, gOp_fld0, gOp_get0]
      refine ⟨fun hc => ?_, fun hc => ?_⟩
      · subst hQ; simp only [loopQ_n]; refine ⟨(i + 1, L', p', m1, op.stamp), ?_, ?_, ge_of ?_ ?_ rfl rfl rfl⟩
        · exact ⟨by simp only; omega, way _ (ht1 hc)⟩
        · simp only; omega
        · simp only [frIn, look, Nat.reduceEqDiff, ↓reduceIte, Bool.and_true, Bool.true_and, true_and, and_true]
          rw [wrap_n (by omega)]
          try simp
        · simp [pvIn, look]
      · subst hQ; simp only [loopQ_n]; refine ⟨(i + 1, L', p', m1, s), ?_, ?_, ge_of ?_ ?_ rfl rfl rfl⟩
        · exact ⟨by simp only; omega, way _ (ht2 hc)⟩
        · simp only; omega
        · simp only [frIn, look, Nat.reduceEqDiff, ↓reduceIte, Bool.and_true, Bool.true_and, true_and, and_true]
          rw [wrap_n (by omega)]
          try simp
        · simp [pvIn, look]
    · obtain ⟨rfl, hM'⟩ := hq.1 hlk
      simp (maxSteps := 2000000) only [retS, List.getElem?_cons_succ, List.getElem?_cons_zero, uni_no_r, beq_eq_false_iff_ne.2 hlk, vc_skip, vc_seq, vc_rg, vc_ite, thenQ_n, blockQ_n, kKeep_eq, segs_nil, segs_n, segs_g, ops_nil, ops_cons, vcOp, RO.isGh, skip_mk, skipL, ev, look, put_mk, keep_mk, keepL, binV, binC, Value.oneCell', cond_true, cond_false, Nat.reduceEqDiff, ↓reduceIte, Bool.true_and, Bool.not_true, true_and, ↓br_ft]
      subst hQ; simp only [loopQ_n]; refine ⟨(i + 1, L, p, m1, s), ?_, ?_, ge_of ?_ ?_ rfl rfl rfl⟩
      · exact ⟨by simp only; omega, hM', hg, by simp only; omega, hfr, htop⟩
      · simp only; omega
      · simp only [frIn, look, Nat.reduceEqDiff, ↓reduceIte, Bool.and_true, Bool.true_and, true_and, and_true]
        rw [wrap_n (by omega)]
        try simp
      · simp [pvIn, look]
  · subst hQ
    simp (maxSteps := 2000000) only [vc_seq, vc_rg, thenQ_n, blockQ_e, loopQ_e, segs_n, ops_cons, vcOp, ev, look, put_mk, Nat.reduceEqDiff, ↓reduceIte, reduceCtorEq, List.nil_append, Bool.true_and, true_and, getT_nil, gStamp_fits, gOp_fld0, gOp_get0]
    refine call_fnv (rcompare_fn last.stamp s) rfl rfl rfl fun _ => ?_
    simp (maxSteps := 2000000) only [retS, vc_skip, vc_ret, vc_seq, vc_rg, vc_ite, thenQ_n, thenQ_r, kKeep_eq, segs_nil, segs_n, ops_nil, ops_cons, vcOp, ev, evL, gvL, look, updL, put_mk, keep_mk, keepL, binV, binC, Value.oneCell', cond_true, Nat.reduceEqDiff, ↓reduceIte, reduceCtorEq, Nat.zero_add, Bool.and_true, Bool.true_and, true_and, and_true, Option.map_some, szAll, List.length_cons, List.length_nil, finW_r, resL, resOne, decide_eq_true_eq, decide_eq_false_iff_not, br_t, getT_nil, gOp_sz, gOp_fits]
    refine ⟨fun _ => trivial, fun hc => ?_⟩
    have hgt : ltK s.k last.k := (rcmpA_pos last.stamp s).1 (by omega)
    refine call_split m PH.no rfl rfl (uni_no_r _).symm (dis_no_r _) (Q := StepQ b L Lb p 0 [last]) (fun w' vs hv _ _ _ => ?_) fun rs m1 _ hq _ => ?_
    · obtain ⟨vs, rfl, _, hv⟩ := argsB_g hv
      obtain ⟨v', vs, rfl, hs, hv⟩ := argsB_row (z := 8) (xs := [gOp last]) rfl rfl hv
      obtain rfl := argsB_nil hv
      exact one_split hM hg (by omega) hl hs
    have hlk := last_look htop hgt hfr
    rw [StepQ, hlk] at hq
    by_cases hc0 : checkE last = 0
    · obtain ⟨L', p', n, hL1, hL2, rfl, hM', hg', hA⟩ := hq.2 hc0
      have hred : p'.red = 0 := hA.red0 fun op hop d hd => by
        rw [List.mem_singleton.1 hop]
        exact last_below htop hgt d hd
      simp (maxSteps := 2000000) only [retS, List.getElem?_cons_succ, List.getElem?_cons_zero, uni_no_r, vc_seq, vc_rg, thenQ_n, kKeep_eq, segs_nil, segs_n, ops_nil, ops_cons, vcOp, ev, look, put_mk, keep_mk, keepL, Nat.reduceEqDiff, ↓reduceIte, reduceCtorEq, Bool.true_and, true_and, getT_nil, gOp_fits]
      refine call_fnv (rcheckOp_fn last hl.1) rfl rfl rfl fun _ => ?_
      simp (maxSteps := 2000000) only [retS, hc0, Int.reduceBNe, segs_g, ops_nil, ops_cons, vcOp, ev, look, put_mk, binV, binC, Value.oneCell', cond_true, Nat.reduceEqDiff, ↓reduceIte, Bool.true_and, BEq.rfl, true_and, ↓br_tt, ↓br_ff]
      refine call_ism _ [.s (.int .i64 0)] rfl rfl (fun w' vs hv _ _ hm => ?_) ?_
      · obtain ⟨vs, rfl, _, hv⟩ := argsV_g hv
        obtain rfl := argsV_nil hv
        have := logRedone_spec hm hM'
        rw [hred] at this
        exact this
      simp (maxSteps := 2000000) only [retS, vc_ret, thenQ_n, kKeep_eq, segs_nil, segs_n, segs_g, ops_nil, ops_cons, vcOp, ev, look, put_mk, keep_mk, keepL, binV, binC, Value.oneCell', cond_true, Nat.reduceEqDiff, ↓reduceIte, Bool.and_true, BEq.rfl, and_true, finW_r, resL, resOne, ↓br_tt, ↓br_ft]
    · obtain ⟨rfl, hM'⟩ := hq.1 hc0
      simp (maxSteps := 2000000) only [retS, List.getElem?_cons_succ, List.getElem?_cons_zero, uni_no_r, vc_seq, vc_rg, thenQ_n, kKeep_eq, segs_nil, segs_n, ops_nil, ops_cons, vcOp, ev, look, put_mk, keep_mk, keepL, Nat.reduceEqDiff, ↓reduceIte, reduceCtorEq, Bool.true_and, true_and, getT_nil, gOp_fits]
      refine call_fnv (rcheckOp_fn last hl.1) rfl rfl rfl fun _ => ?_
      simp (maxSteps := 2000000) only [retS, bne_iff_ne.2 hc0, beq_self_eq_true, vc_ret, thenQ_n, kKeep_eq, segs_nil, segs_n, segs_g, ops_nil, ops_cons, vcOp, RO.isGh, skip_mk, skipL, ev, look, put_mk, keep_mk, keepL, binV, binC, Value.oneCell', cond_true, cond_false, Nat.reduceEqDiff, ↓reduceIte, Bool.and_true, Bool.not_false, and_true, finW_r, resL, resOne, ↓br_tt, ↓br_tf]
theorem would13_spec (w : World) (v : Value) (ops : List Op) (last : Op) (hb : ops.length ≤ 1048576) (ho : ∀ op ∈ ops, OpIn op ∧ OpOk op) (hl : OpIn last ∧ OpOk last) (h : SlR w.ph v 8 (ops.map gOp)) :
    Spec Tryz.prog f_law13_OplogWould [v, (gOp last).val] PH.no w fun rs _ => rs = [.s (.bool true)] := by
  refine spec_val k_law13_OplogWould (Qf := fun rs => rs = [.s (.bool true)]) [.ro v 8 (gOp zOp) (ops.map gOp), .g (gOp last)] (by simp) (by simpa [AV.ok, u0_no, gOp_ok] using h) ?_
  simp (maxSteps := 2000000) only [c_law13_OplogWould, vc_seq, vc_rg, thenQ_n, kKeep_eq, segs_nil, segs_n, ops_nil, ops_cons, vcOp, ev, look, updL, put_mk, keep_mk, keepL, Value.oneCell', cond_true, Nat.reduceEqDiff, ↓reduceIte, reduceCtorEq, Nat.zero_add, Bool.true_and, true_and, initF, initP, List.length_map, gStamp_zero, gOp_zero]
  refine call_ownm rfl rfl (Q := fun rs m' => ∃ b L Lb, rs = [.s (ptr b)] ∧ LogM m' b L Lb PL.new) (fun w' vs hv hw _ _ => ?_) fun rs m0 _ hq _ => ?_
  · obtain rfl := argsV_nil hv
    exact logNew_spec w'
  obtain ⟨b, L0, Lb, rfl, hL⟩ := hq
  simp (maxSteps := 2000000) only [retS, uni_no_r, vc_seq, vc_rg, thenQ_n, kKeep_eq, segs_nil, segs_n, ops_nil, ops_cons, vcOp, ev, look, put_mk, keep_mk, keepL, Value.oneCell', cond_true, Nat.reduceEqDiff, ↓reduceIte, reduceCtorEq, ptr]
  refine eq_of (eqLog b) ?_
  simp (maxSteps := 2000000) only [segs_g, ops_nil, ops_cons, vcOp, ev, look, put_mk, ↓reduceIte, ↓br_ff, Bool.bne_false]
  refine call_ism _ [.s (.bool true)] rfl rfl (fun w' vs hv _ _ hm => ?_) ?_
  · obtain rfl := argsV_nil hv
    exact live13_spec w'
  simp (maxSteps := 2000000) only [retS, vc_skip, vc_seq, vc_block, vc_rg, vc_ite, thenQ_n, kKeep_eq, segs_nil, segs_n, ops_nil, ops_cons, vcOp, ev, evL, gvL, look, updL, put_mk, put_mk0, keep_mk, keepL, unV, Value.oneCell', cond_true, Nat.reduceEqDiff, ↓reduceIte, reduceCtorEq, Bool.and_true, Bool.true_and, Bool.not_true, true_and, and_true, List.map_nil, ↓br_ft, GV.bldT, GV.bldC, getT_nil, setT_nil, gStamp_sz, gStamp_same]
  refine vc_loop (ι := Nat × Lay × PL × PH × Stamp) (fun x => ⟨[(3, .ref 3 []), (5, .g (.s (.pointer (some ⟨b, 0, none⟩)))), (6, .ref 6 []), (22, .row 0 0 (ops.length)), (23, .g (.s (.int .i64 (ops.length)))), (24, .g (.s (.int .i64 (x.1))))], [(0, .ro 8 (gOp zOp) (ops.map gOp)), (3, .box (gOp last)), (6, .box (gStamp x.2.2.2.2))], [], x.2.2.2.1⟩)
    (fun x => x.1 ≤ ops.length ∧ Way1 b x.2.2.2.1 x.2.1 Lb x.2.2.1 x.2.2.2.2 x.1) (fun x => ops.length - x.1) (0, L0, PL.new, m0, zStamp) ⟨by simp, hL, (PL.new_good _).up (Nat.zero_le _), Nat.le_refl _, rfl, fun d hd => by cases hd⟩ (ge_of ?_ ?_ rfl rfl rfl) ?_
  · simp [frIn, look]
  · simp [pvIn, look]
  rintro ⟨i, L, p, m, s⟩ ⟨hi, hM, hg, hfew, hfr, htop⟩
  simp only at hi hM hg hfew hfr htop
  generalize hQ : loopQ _ _ _ _ _ = Q
  simp (maxSteps := 2000000) only [c_law13_OplogWould_L0, vc_skip, vc_exit, vc_seq, vc_block, vc_rg, vc_ite, thenQ_n, thenQ_e, kKeep_eq, segs_nil, segs_n, ops_nil, ops_cons, vcOp, ev, evL, gvL, look, updL, put_mk, put_mk0, keep_mk, keepL, rowE, rowD, binV, binC, Nat.reduceEqDiff, ↓reduceIte, reduceCtorEq, Nat.zero_add, Bool.and_true, Bool.true_and, true_and, and_true, Option.map_some, szAll, List.length_cons, List.length_nil, Int.toNat_natCast, decide_eq_true_eq, decide_eq_false_iff_not, br_t, getT_nil, setT_nil, gStamp_zero, gOp_sz, gOp_fits, gOp_same, gOp_zero, getD_gOp]
  refine ⟨fun hlt => ⟨⟨by omega, by omega⟩, ?_⟩, fun hge => ?_⟩
  · have hil : i < ops.length := by omega
    obtain ⟨op, hop⟩ : ∃ op, ops.getD i zOp = op := ⟨_, rfl⟩
    have hoo := ho op (hop ▸ getD_in hil zOp)
    rw [hop]
    refine call_split m PH.no rfl rfl (uni_no_r _).symm (dis_no_r _) (Q := StepQ b L Lb p 0 [op]) (fun w' vs hv _ _ _ => ?_) fun rs m1 _ hq _ => ?_
    · obtain ⟨vs, rfl, _, hv⟩ := argsB_g hv
      obtain ⟨v', vs, rfl, hs, hv⟩ := argsB_row (z := 8) (xs := [gOp op]) rfl rfl hv
      obtain rfl := argsB_nil hv
      exact one_split hM hg (by omega) hoo hs
    by_cases hlk : lookE p.ds p.fr [] [op] = 0
    · obtain ⟨L', p', n, hL1, hL2, rfl, hM', hg', hA⟩ := hq.2 hlk
      obtain ⟨ht1, ht2⟩ := top_add hA htop
      have hpl := ops_len hA
      rw [List.length_singleton] at hpl
      have way : ∀ s', Top p' s' → Way1 b m1 L' Lb p' s' (i + 1) := fun s' ht => ⟨hM', by rw [hL2]; exact hg', by omega, hA.fr.trans hfr, ht⟩
      simp (maxSteps := 2000000) only [retS, List.getElem?_cons_succ, List.getElem?_cons_zero, uni_no_r, vc_seq, vc_rg, thenQ_n, kKeep_eq, segs_nil, segs_n, segs_g, ops_nil, ops_cons, vcOp, ev, look, put_mk, keep_mk, keepL, binV, binC, Value.oneCell', cond_true, Nat.reduceEqDiff, ↓reduceIte, reduceCtorEq, List.nil_append, Bool.true_and, BEq.rfl, true_and, ↓br_tt, getT_nil, gStamp_fits, gOp_fld0, gOp_get0]
      refine call_fnv (rcompare_fn op.stamp s) rfl rfl rfl fun _ => ?_
      simp (maxSteps := 2000000) only [retS, gt_iff_lt, vc_skip, vc_rg, vc_ite, thenQ_n, blockQ_n, kKeep_eq, segs_nil, segs_n, ops_nil, ops_cons, vcOp, ev, look, updL, put_mk, put_mk0, keep_mk, keepL, binV, binC, Value.oneCell', cond_true, Nat.reduceEqDiff, ↓reduceIte, reduceCtorEq, List.nil_append, Bool.and_true, Bool.true_and, true_and, and_true, decide_eq_true_eq, decide_eq_false_iff_not, ↓br_tt, br_t, getT_nil, setT_nil, gStamp_sz, gStamp_fits, gStamp_same, gOp_fld0, gOp_get0]
      refine ⟨fun hc => ?_, fun hc => ?_⟩
      · subst hQ; simp only [loopQ_n]; refine ⟨(i + 1, L', p', m1, op.stamp), ?_, ?_, ge_of ?_ ?_ rfl rfl rfl⟩
        · exact ⟨by simp only; omega, way _ (ht1 hc)⟩
        · simp only; omega
        · simp only [frIn, look, Nat.reduceEqDiff, ↓reduceIte, Bool.and_true, Bool.true_and, true_and, and_true]
          rw [wrap_n (by omega)]
          try simp
        · simp [pvIn, look]
      · subst hQ; simp only [loopQ_n]; refine ⟨(i + 1, L', p', m1, s), ?_, ?_, ge_of ?_ ?_ rfl rfl rfl⟩
        · exact ⟨by simp only; omega, way _ (ht2 hc)⟩
        · simp only; omega
        · simp only [frIn, look, Nat.reduceEqDiff, ↓reduceIte, Bool.and_true, Bool.true_and, true_and, and_true]
          rw [wrap_n (by omega)]
          try simp
        · simp [pvIn, look]
    · obtain ⟨rfl, hM'⟩ := hq.1 hlk
      simp (maxSteps := 2000000) only [retS, List.getElem?_cons_succ, List.getElem?_cons_zero, uni_no_r, beq_eq_false_iff_ne.2 hlk, vc_skip, vc_seq, vc_rg, vc_ite, thenQ_n, blockQ_n, kKeep_eq, segs_nil, segs_n, segs_g, ops_nil, ops_cons, vcOp, RO.isGh, skip_mk, skipL, ev, look, put_mk, keep_mk, keepL, binV, binC, Value.oneCell', cond_true, cond_false, Nat.reduceEqDiff, ↓reduceIte, Bool.true_and, Bool.not_true, true_and, ↓br_ft]
      subst hQ; simp only [loopQ_n]; refine ⟨(i + 1, L, p, m1, s), ?_, ?_, ge_of ?_ ?_ rfl rfl rfl⟩
      · exact ⟨by simp only; omega, hM', hg, by simp only; omega, hfr, htop⟩
      · simp only; omega
      · simp only [frIn, look, Nat.reduceEqDiff, ↓reduceIte, Bool.and_true, Bool.true_and, true_and, and_true]
        rw [wrap_n (by omega)]
        try simp
      · simp [pvIn, look]
  · subst hQ
    simp (maxSteps := 2000000) only [vc_seq, vc_rg, thenQ_n, blockQ_e, loopQ_e, segs_n, ops_cons, vcOp, ev, look, put_mk, Nat.reduceEqDiff, ↓reduceIte, reduceCtorEq, Bool.true_and, true_and, getT_nil, gOp_fits]
    have hq4 : tri p.ds.length ≤ 1099511627776 := by have := tri_le (n := p.ds.length) (by omega); omega
    refine call_ism _ [.s (.bool (decide (checkE last = 0) && mayA p.T last)), .s (.int .i64 (checkE last))] rfl rfl (fun w' vs hv _ _ hm => ?_) ?_
    · obtain ⟨vs, rfl, _, hv⟩ := argsV_g hv
      obtain ⟨vs, rfl, _, hv⟩ := argsV_g hv
      obtain rfl := argsV_nil hv
      exact would_spec hm hM hg hq4 last hl.1
    by_cases hc0 : checkE last = 0
    case neg =>
      simp (maxSteps := 2000000) only [retS, List.getElem?_cons_succ, List.getElem?_cons_zero, bne_iff_ne.2 hc0, vc_seq, vc_rg, vc_ite, thenQ_n, kKeep_eq, segs_nil, segs_n, segs_g, ops_nil, ops_cons, vcOp, RO.isGh, skip_mk, skipL, ev, look, put_mk, keep_mk, keepL, binV, binC, Value.oneCell', cond_true, cond_false, Nat.reduceEqDiff, ↓reduceIte, reduceCtorEq, Bool.true_and, Bool.not_false, true_and, ↓br_tt, ↓br_tf, getT_nil, gOp_fits]
      refine call_fnv (rcheckOp_fn last hl.1) rfl rfl rfl fun _ => ?_
      simp (maxSteps := 2000000) only [retS, beq_self_eq_true, vc_ret, thenQ_n, thenQ_r, kKeep_eq, segs_nil, ops_nil, ops_cons, vcOp, ev, look, put_mk, keep_mk, keepL, binV, binC, Nat.reduceEqDiff, ↓reduceIte, Bool.and_true, and_true, finW_r, resL, resOne]
    simp (maxSteps := 2000000) only [retS, List.getElem?_cons_succ, List.getElem?_cons_zero, hc0, Int.reduceBNe, vc_seq, vc_rg, thenQ_n, kKeep_eq, segs_nil, segs_n, segs_g, ops_nil, ops_cons, vcOp, ev, look, put_mk, keep_mk, keepL, binV, binC, Value.oneCell', cond_true, Nat.reduceEqDiff, ↓reduceIte, reduceCtorEq, List.nil_append, Bool.true_and, decide_true, true_and, ↓br_ff, getT_nil, gStamp_fits, gOp_fld0, gOp_get0]
    refine call_fnv (rcompare_fn last.stamp s) rfl rfl rfl fun _ => ?_
    simp (maxSteps := 2000000) only [retS, vc_skip, vc_seq, vc_rg, vc_ite, thenQ_n, kKeep_eq, segs_nil, segs_n, ops_nil, ops_cons, vcOp, ev, evL, gvL, look, updL, put_mk, keep_mk, keepL, binV, binC, Value.oneCell', cond_true, Nat.reduceEqDiff, ↓reduceIte, reduceCtorEq, Nat.zero_add, Bool.and_true, Bool.true_and, true_and, and_true, Option.map_some, szAll, List.length_cons, List.length_nil, decide_eq_true_eq, decide_eq_false_iff_not, ↓br_ft, br_t, getT_nil, gOp_sz, gOp_fits]
    refine ⟨fun hc => ?_, fun hc => ?_⟩
    · refine call_fnv (rcheckOp_fn last hl.1) rfl rfl rfl fun _ => ?_
      simp (maxSteps := 2000000) only [retS, hc0, beq_self_eq_true, vc_ret, thenQ_n, thenQ_r, kKeep_eq, segs_nil, ops_nil, ops_cons, vcOp, ev, look, put_mk, keep_mk, keepL, binV, binC, Nat.reduceEqDiff, ↓reduceIte, Bool.and_true, and_true, finW_r, resL, resOne]
    have hgt : ltK s.k last.k := (rcmpA_pos last.stamp s).1 (by omega)
    refine call_split m PH.no rfl rfl (uni_no_r _).symm (dis_no_r _) (Q := StepQ b L Lb p 0 [last]) (fun w' vs hv _ _ _ => ?_) fun rs m1 _ hq _ => ?_
    · obtain ⟨vs, rfl, _, hv⟩ := argsB_g hv
      obtain ⟨v', vs, rfl, hs, hv⟩ := argsB_row (z := 8) (xs := [gOp last]) rfl rfl hv
      obtain rfl := argsB_nil hv
      exact one_split hM hg (by omega) hl hs
    have hlk := last_look htop hgt hfr
    rw [StepQ, hlk] at hq
    obtain ⟨L', p', n, hL1, hL2, rfl, hM', hg', hA⟩ := hq.2 hc0
    have hn := last_taken hg hg' hA htop hgt
    subst hn
    simp (maxSteps := 2000000) only [retS, List.getElem?_cons_succ, List.getElem?_cons_zero, uni_no_r, vc_seq, vc_rg, thenQ_n, kKeep_eq, segs_nil, segs_n, segs_g, ops_nil, ops_cons, vcOp, ev, look, put_mk, keep_mk, keepL, binV, binC, Value.oneCell', cond_true, Nat.reduceEqDiff, ↓reduceIte, Bool.true_and, BEq.rfl, true_and, ↓br_tt]
    have : ((if mayA p.T last = true then (1 : Int) else 0) == 1) = mayA p.T last := by cases mayA p.T last <;> rfl
    rw [this]
    refine eq_of (eqG_bool Tryz.underlying4 _ _) ?_
    simp (maxSteps := 2000000) only [vc_ret, thenQ_n, kKeep_eq, segs_nil, segs_n, ops_nil, ops_cons, vcOp, ev, look, put_mk, keep_mk, keepL, Value.oneCell', cond_true, Nat.reduceEqDiff, ↓reduceIte, BEq.rfl, finW_r, resL, resOne, ↓br_tt, Bool.bne_false]
end Go.Proofs.YtmjiojflncffeaaGreat.Vc

/- OplogRedoes and OplogWould: where what is read is of bulk at most the row's bound, the law answers true and leaves its arguments as they were. -/
set_option linter.unusedVariables false
set_option linter.unusedSimpArgs false
set_option maxRecDepth 100000
namespace Go.Proofs.YtmjiojflncffeaaGreat.Vc
open Go Go.Proofs Go.Proofs.YtmjiojflncffeaaGreat Go.ChangeShapes Go.WideShapes Go.ChangeAt

theorem OplogRedoes_open {H : Type} (enc : TypeId × Value → H) (W : World) (base : Nat) (vs : List Value) (h : RdBs enc Tryz.prog W base [22, 26] vs 1048576) (_ : W.ShapedOpen Tryz.prog) : Spec Tryz.prog f_law13_OplogRedoes vs PH.no W fun rs _ => rs = [.s (.bool true)] := by
  obtain ⟨v1, vs, a, b, rfl, hab, h1, g1, h⟩ := rdbs_cons h
  obtain ⟨v2, vs, a2, b2, rfl, hab2, h2, g2, h⟩ := rdbs_cons h
  obtain rfl := rdbs_nil h
  obtain ⟨ops, k1, l1, o1⟩ := open_OpsIn h1 g1
  obtain ⟨last, rfl, o2⟩ := open_OpIn h2 g2
  exact redoes_spec W v1 ops last (by omega) o1 o2 k1
theorem OplogWould_open {H : Type} (enc : TypeId × Value → H) (W : World) (base : Nat) (vs : List Value) (h : RdBs enc Tryz.prog W base [22, 26] vs 1048576) (_ : W.ShapedOpen Tryz.prog) : Spec Tryz.prog f_law13_OplogWould vs PH.no W fun rs _ => rs = [.s (.bool true)] := by
  obtain ⟨v1, vs, a, b, rfl, hab, h1, g1, h⟩ := rdbs_cons h
  obtain ⟨v2, vs, a2, b2, rfl, hab2, h2, g2, h⟩ := rdbs_cons h
  obtain rfl := rdbs_nil h
  obtain ⟨ops, k1, l1, o1⟩ := open_OpsIn h1 g1
  obtain ⟨last, rfl, o2⟩ := open_OpIn h2 g2
  exact would13_spec W v1 ops last (by omega) o1 o2 k1

theorem OplogRedoes_reads (os : Os) {H : Type} (enc : TypeId × Value → H) : ∃ places, DataW.whole enc Tryz.prog ((World.holding Tryz.prog os ⟨#[], #[], []⟩).forCall (fun _ _ => 0) ⟨#[], #[.slice none 0 0, (gOp zOp).val], []⟩).memory Tryz.f3.params.toList Rows.oplogRedoesSpec.vars false (#[.slice none 0 0, (gOp zOp).val] : Array Value).toList 8 = some ([.nil, .agg [.agg [.lit (.int .i64 0), .lit (.int .i64 0)], .lit (.int .i64 0), .lit (.int .i64 0), .lit (.int .i64 0), .lit (.string []), .lit (.string []), .lit (.string [])]], [], places) :=
  ⟨[], by kernel_rfl⟩
theorem OplogRedoes_lifted (os : Os) (started : os.Started) (H : Type) (enc : TypeId × Value → H) (F : Stop.Interp) :
    ReturnsInHanded {} Tryz.checked os f_law13_OplogRedoes .any ((Rows.OpenSpec.upto Rows.oplogRedoesSpec).preRow enc Tryz.prog Tryz.f3 Rows.oplogRedoesUptoRow.domain false Rows.oplogRedoesUptoRow.laid) (((Rows.OpenSpec.upto Rows.oplogRedoesSpec).at F).post enc Tryz.prog Tryz.f3 false true false false) := by
  obtain ⟨places, hx⟩ := OplogRedoes_reads os enc
  exact law_lifted_upto (C := Tryz.checked) Try_own Try_laidOut started (by kernel_rfl) Tryz.func3
    (witness_row_at (enc := enc) (C := Tryz.checked) false (World.holding Tryz.prog os ⟨#[], #[], []⟩) #[.slice none 0 0, (gOp zOp).val] rfl (by kernel_rfl) (by kernel_rfl) (by kernel_rfl)
      (OpenSpec.preRow_of_cond 8 hx (by kernel_rfl) (fun k hk => by cases hk; kernel_rfl) (by kernel_rfl) (laidMet_of_run' 8 (by kernel_rfl) (by kernel_rfl))))
    (by kernel_rfl) rfl (tb := 4) (by kernel_rfl) (by kernel_rfl) (ts := [22, 26]) (by kernel_rfl) (fun ds h => by match ds, h with | [d0, d1], _ => rfl) (OplogRedoes_open enc)
theorem OplogRedoes_upto : Rows.OplogRedoesUptoSaid :=
  OpenClaim.holds_of_cond f_law13_OplogRedoes Tryz.f3 rfl rfl rfl rfl rfl rfl rfl ⟨rfl, rfl, rfl, rfl, rfl⟩ rfl rfl rfl rfl rfl (by kernel_rfl) Tryz.func3 (by kernel_rfl)
    (of_decide_eq_true (by kernel_rfl)) (by unfold Func.isWrapper; first | (rw [if_pos (by decide +kernel)]; kernel_rfl) | (rw [if_neg (by decide +kernel)]; exact ⟨rfl, rfl⟩))
    (fun os started H enc _ F => by rw [OpenClaim.pre_eq_preRow]; exact OplogRedoes_lifted os started H enc F)
#print axioms OplogRedoes_upto
theorem OplogWould_reads (os : Os) {H : Type} (enc : TypeId × Value → H) : ∃ places, DataW.whole enc Tryz.prog ((World.holding Tryz.prog os ⟨#[], #[], []⟩).forCall (fun _ _ => 0) ⟨#[], #[.slice none 0 0, (gOp zOp).val], []⟩).memory Tryz.f4.params.toList Rows.oplogWouldSpec.vars false (#[.slice none 0 0, (gOp zOp).val] : Array Value).toList 8 = some ([.nil, .agg [.agg [.lit (.int .i64 0), .lit (.int .i64 0)], .lit (.int .i64 0), .lit (.int .i64 0), .lit (.int .i64 0), .lit (.string []), .lit (.string []), .lit (.string [])]], [], places) :=
  ⟨[], by kernel_rfl⟩
theorem OplogWould_lifted (os : Os) (started : os.Started) (H : Type) (enc : TypeId × Value → H) (F : Stop.Interp) :
    ReturnsInHanded {} Tryz.checked os f_law13_OplogWould .any ((Rows.OpenSpec.upto Rows.oplogWouldSpec).preRow enc Tryz.prog Tryz.f4 Rows.oplogWouldUptoRow.domain false Rows.oplogWouldUptoRow.laid) (((Rows.OpenSpec.upto Rows.oplogWouldSpec).at F).post enc Tryz.prog Tryz.f4 false true false false) := by
  obtain ⟨places, hx⟩ := OplogWould_reads os enc
  exact law_lifted_upto (C := Tryz.checked) Try_own Try_laidOut started (by kernel_rfl) Tryz.func4
    (witness_row_at (enc := enc) (C := Tryz.checked) false (World.holding Tryz.prog os ⟨#[], #[], []⟩) #[.slice none 0 0, (gOp zOp).val] rfl (by kernel_rfl) (by kernel_rfl) (by kernel_rfl)
      (OpenSpec.preRow_of_cond 8 hx (by kernel_rfl) (fun k hk => by cases hk; kernel_rfl) (by kernel_rfl) (laidMet_of_run' 8 (by kernel_rfl) (by kernel_rfl))))
    (by kernel_rfl) rfl (tb := 4) (by kernel_rfl) (by kernel_rfl) (ts := [22, 26]) (by kernel_rfl) (fun ds h => by match ds, h with | [d0, d1], _ => rfl) (OplogWould_open enc)
theorem OplogWould_upto : Rows.OplogWouldUptoSaid :=
  OpenClaim.holds_of_cond f_law13_OplogWould Tryz.f4 rfl rfl rfl rfl rfl rfl rfl ⟨rfl, rfl, rfl, rfl, rfl⟩ rfl rfl rfl rfl rfl (by kernel_rfl) Tryz.func4 (by kernel_rfl)
    (of_decide_eq_true (by kernel_rfl)) (by unfold Func.isWrapper; first | (rw [if_pos (by decide +kernel)]; kernel_rfl) | (rw [if_neg (by decide +kernel)]; exact ⟨rfl, rfl⟩))
    (fun os started H enc _ F => by rw [OpenClaim.pre_eq_preRow]; exact OplogWould_lifted os started H enc F)
#print axioms OplogWould_upto
end Go.Proofs.YtmjiojflncffeaaGreat.Vc

