/- Parts in memory of their own. -/
import Derived.Test.YtgkdipfmhjlbhaaBt1
import Derived.Test.YtgkdipfmhjlbhaaIb2
set_option linter.unusedVariables false
set_option linter.unusedSimpArgs false
set_option maxRecDepth 100000
namespace Go.Proofs.Ytgkdipfmhjlbhaa.Vc
open Go Go.Proofs

/-- Bytes in memory of one's own. -/
def BytesO (m : PH) (v : Value) (bs : List UInt8) : Prop := v.oneCell' = true ∧ SlO m v 5 1 (bs.map gb)
def CloneQ (bs : List UInt8) (rs : List GV) (m' : PH) : Prop := ∃ v', rs = [.s v'] ∧ BytesO m' v' bs

theorem Clone_spec (w : World) (v : Value) (bs : List UInt8) (hb : bs.length ≤ 140737488351232) (u : PH) (hu : u.le w) (h : SlR u v 1 (bs.map gb)) :
    Spec Try.prog f_slices_Clone [v] PH.no w (CloneQ bs) := by
  have hels := h.1
  refine spec_of k_slices_Clone [.ro v 1 (gb 0) (bs.map gb)] (by simp) (by simpa [AV.ok, u0_no] using h.up hu.sub) ?_
  simp (maxSteps := 2000000) only [c_slices_Clone, vc_skip, vc_ret, vc_exit, vc_seq, vc_block, vc_rg, vc_rgq, vc_rga, vc_ite, thenQ_n, thenQ_r, thenQ_e, blockQ_n, blockQ_r, blockQ_e, kKeep_eq, loopQ_r, loopQ_e, loopQ_n, finQ_r, finQ_n, segs_nil, segs_n, segs_g, ops_nil, ops_cons, qsegs_nil, qsegs_n, qsegs_g, qops_nil, qops_cons, ot_done, ot_op, ot_or, vcqOp, vcOp, isRd, RO.isGh, skip_mk, skipL, ev, evL, gvL, scL, look, updL, put_mk, put_mk0, keep_mk, keepL, rowE, rowD, bndN, binV, binC, unV, GV.getT, GV.fld, GV.sz, GV.same, GV.setT, Value.oneCell', cond_true, cond_false, Nat.reduceEqDiff, Nat.reduceAdd, Nat.reduceMul, Nat.reduceSub, Nat.reduceBEq, Nat.reduceLeDiff, ↓reduceIte, reduceCtorEq, List.nil_append, List.cons_append, List.append_nil, Nat.zero_add, Nat.add_zero, Bool.and_true, Bool.true_and, Bool.not_true, Bool.not_false, BEq.rfl, decide_true, decide_false, true_and, and_true, initF, initP, List.map_cons, List.map_nil, Option.map_some, szAll, List.length_cons, List.length_nil, finW_r, finW_n, resL, resOne, Option.bind_some, true_imp_iff, false_imp_iff, Bool.true_eq_false, Bool.false_eq_true, Int.toNat_natCast, Int.reduceToNat, Int.reduceLE, Int.reduceLT, Int.reduceAdd, Int.reduceSub, Int.reduceEq, decide_eq_true_eq, decide_eq_false_iff_not, kill, SV.mentions, ne_eq, not_false_eq_true, not_true_eq_false, List.drop_zero, List.take_succ_cons, List.take_zero, dOk, ↓br_tt, ↓br_ff, ↓br_tf, ↓br_ft, br_t, br_f, Bool.bne_false, Bool.bne_true, GV.bldT, GV.bldC, gVec_get, gVec_set, gVec_arr, gVec_fits, gVec_sz, gVec_sameT, gVec_zero, gVec_isS, gVec2_get, gVec2_arr, gVec2_fits, gVec2_sz, gVec2_sameT, gVec2_zero, gVec2_set, same_int, getT_nil, setT_nil, getD_gi, List.length_map, fits_s, fits_c, fits_ar, arr_ar, get_nil, gPart_sz, gPart_fits, gPart_isS, gPart_same, gPart_fld0, gPart_get0, gPart_set0, gPart_fld1, gPart_get1, gPart_set1, gPart_fld2, gPart_get2, gPart_set2, gPart_fld3, gPart_get3, gPart_set3, gPart_zero, getD_gPart]
  refine ⟨⟨5, by kernel_rfl⟩, fun r hr => ⟨fun h1 => ?_, fun h1 => ⟨by omega, ?_⟩⟩⟩
  · have : bs = [] := by
      cases bs with
      | nil => rfl
      | cons b bs => have := hr (by simp); rw [h1] at this; cases this
    subst this
    exact fin_m PH.no rfl (fun _ _ h => by cases h) ⟨_, rfl, rfl, ⟨fun x hx => by simp at hx, .inl ⟨rfl, rfl⟩⟩⟩
  · rw [show List.take bs.length (bs.map gb) = bs.map gb by rw [List.take_of_length_le (by simp)]]
    refine gh_pub 2 5 _ rfl rfl (by simp) fun v' u' ho hs hd => ?_
    simp (maxSteps := 2000000) only [vc_skip, vc_ret, vc_exit, vc_seq, vc_block, vc_rg, vc_rgq, vc_rga, vc_ite, thenQ_n, thenQ_r, thenQ_e, blockQ_n, blockQ_r, blockQ_e, kKeep_eq, loopQ_r, loopQ_e, loopQ_n, finQ_r, finQ_n, segs_nil, segs_n, segs_g, ops_nil, ops_cons, qsegs_nil, qsegs_n, qsegs_g, qops_nil, qops_cons, ot_done, ot_op, ot_or, vcqOp, vcOp, isRd, RO.isGh, skip_mk, skipL, ev, evL, gvL, scL, look, updL, put_mk, put_mk0, keep_mk, keepL, rowE, rowD, bndN, binV, binC, unV, GV.getT, GV.fld, GV.sz, GV.same, GV.setT, Value.oneCell', cond_true, cond_false, Nat.reduceEqDiff, Nat.reduceAdd, Nat.reduceMul, Nat.reduceSub, Nat.reduceBEq, Nat.reduceLeDiff, ↓reduceIte, reduceCtorEq, List.nil_append, List.cons_append, List.append_nil, Nat.zero_add, Nat.add_zero, Bool.and_true, Bool.true_and, Bool.not_true, Bool.not_false, BEq.rfl, decide_true, decide_false, true_and, and_true, initF, initP, List.map_cons, List.map_nil, Option.map_some, szAll, List.length_cons, List.length_nil, finW_r, finW_n, resL, resOne, Option.bind_some, true_imp_iff, false_imp_iff, Bool.true_eq_false, Bool.false_eq_true, Int.toNat_natCast, Int.reduceToNat, Int.reduceLE, Int.reduceLT, Int.reduceAdd, Int.reduceSub, Int.reduceEq, decide_eq_true_eq, decide_eq_false_iff_not, kill, SV.mentions, ne_eq, not_false_eq_true, not_true_eq_false, List.drop_zero, List.take_succ_cons, List.take_zero, dOk, ↓br_tt, ↓br_ff, ↓br_tf, ↓br_ft, br_t, br_f, Bool.bne_false, Bool.bne_true, GV.bldT, GV.bldC, gVec_get, gVec_set, gVec_arr, gVec_fits, gVec_sz, gVec_sameT, gVec_zero, gVec_isS, gVec2_get, gVec2_arr, gVec2_fits, gVec2_sz, gVec2_sameT, gVec2_zero, gVec2_set, same_int, getT_nil, setT_nil, getD_gi, List.length_map, fits_s, fits_c, fits_ar, arr_ar, get_nil, gPart_sz, gPart_fits, gPart_isS, gPart_same, gPart_fld0, gPart_get0, gPart_set0, gPart_fld1, gPart_get1, gPart_set1, gPart_fld2, gPart_get2, gPart_set2, gPart_fld3, gPart_get3, gPart_set3, gPart_zero, getD_gPart]
    exact fin_m u' rfl (by rw [uni_no_r]; exact fun _ _ h => h) ⟨v', rfl, ho, hs⟩

/-- A part in memory of one's own. -/
def PartO (m : PH) (p : Part) (a : AP) : Prop := p.snap = a.snap ∧ p.index = a.index ∧ p.many = a.many ∧ BytesO m p.data a.data
theorem PartO.toR {m : PH} {p : Part} {a : AP} (h : PartO m p a) : PartR m p a := ⟨h.1, h.2.1, h.2.2.1, h.2.2.2.2.toR⟩
theorem PartO.up {u v : PH} {p : Part} {a : AP} (h : PartO u p a) (hs : PH.sub u v) : PartO v p a := ⟨h.1, h.2.1, h.2.2.1, h.2.2.2.1, h.2.2.2.2.up hs⟩
theorem PartO.ok {m : PH} {p : Part} {a : AP} (h : PartO m p a) : (gPart p).ok := h.toR.ok
def TwinQ (a : AP) (rs : List GV) (m' : PH) : Prop := ∃ p', rs = [gPart p'] ∧ PartO m' p' a

theorem twin_spec (w : World) (p : Part) (a : AP) (hb : a.data.length ≤ 140737488351232) (u : PH) (hu : u.le w) (h : PartR u p a) : Spec Try.prog f_boot_twin [(gPart p).val] PH.no w (TwinQ a) := by
  refine spec_of k_boot_twin [.g (gPart p)] (by simp) (by simpa [AV.ok] using h.ok) ?_
  simp (maxSteps := 2000000) only [c_boot_twin, vc_skip, vc_ret, vc_exit, vc_seq, vc_block, vc_rg, vc_rgq, vc_rga, vc_ite, thenQ_n, thenQ_r, thenQ_e, blockQ_n, blockQ_r, blockQ_e, kKeep_eq, loopQ_r, loopQ_e, loopQ_n, finQ_r, finQ_n, segs_nil, segs_n, segs_g, ops_nil, ops_cons, qsegs_nil, qsegs_n, qsegs_g, qops_nil, qops_cons, ot_done, ot_op, ot_or, vcqOp, vcOp, isRd, RO.isGh, skip_mk, skipL, ev, evL, gvL, scL, look, updL, put_mk, put_mk0, keep_mk, keepL, rowE, rowD, bndN, binV, binC, unV, GV.getT, GV.fld, GV.sz, GV.same, GV.setT, Value.oneCell', cond_true, cond_false, Nat.reduceEqDiff, Nat.reduceAdd, Nat.reduceMul, Nat.reduceSub, Nat.reduceBEq, Nat.reduceLeDiff, ↓reduceIte, reduceCtorEq, List.nil_append, List.cons_append, List.append_nil, Nat.zero_add, Nat.add_zero, Bool.and_true, Bool.true_and, Bool.not_true, Bool.not_false, BEq.rfl, decide_true, decide_false, true_and, and_true, initF, initP, List.map_cons, List.map_nil, Option.map_some, szAll, List.length_cons, List.length_nil, finW_r, finW_n, resL, resOne, Option.bind_some, true_imp_iff, false_imp_iff, Bool.true_eq_false, Bool.false_eq_true, Int.toNat_natCast, Int.reduceToNat, Int.reduceLE, Int.reduceLT, Int.reduceAdd, Int.reduceSub, Int.reduceEq, decide_eq_true_eq, decide_eq_false_iff_not, kill, SV.mentions, ne_eq, not_false_eq_true, not_true_eq_false, List.drop_zero, List.take_succ_cons, List.take_zero, dOk, ↓br_tt, ↓br_ff, ↓br_tf, ↓br_ft, br_t, br_f, Bool.bne_false, Bool.bne_true, GV.bldT, GV.bldC, gVec_get, gVec_set, gVec_arr, gVec_fits, gVec_sz, gVec_sameT, gVec_zero, gVec_isS, gVec2_get, gVec2_arr, gVec2_fits, gVec2_sz, gVec2_sameT, gVec2_zero, gVec2_set, same_int, getT_nil, setT_nil, getD_gi, List.length_map, fits_s, fits_c, fits_ar, arr_ar, get_nil, gPart_sz, gPart_fits, gPart_isS, gPart_same, gPart_fld0, gPart_get0, gPart_set0, gPart_fld1, gPart_get1, gPart_set1, gPart_fld2, gPart_get2, gPart_set2, gPart_fld3, gPart_get3, gPart_set3, gPart_zero, getD_gPart]
  refine call_own (dOk_spec rfl) rfl (Q := CloneQ a.data) (fun w' vs hv hw _ => ?_) fun rs m' hok hq => ?_
  · obtain ⟨vs, rfl, _, hv⟩ := argsV_g hv
    obtain rfl := argsV_nil hv
    have hu' : u.le w' := fun b o hb => hw b o (by rw [u0_no]; exact hu b o hb)
    exact Clone_spec w' p.data a.data hb u hu' h.2.2.2
  · obtain ⟨v', rfl, ho, hs⟩ := hq
    simp (maxSteps := 2000000) only [retS, uni_no_r, vc_skip, vc_ret, vc_exit, vc_seq, vc_block, vc_rg, vc_rgq, vc_rga, vc_ite, thenQ_n, thenQ_r, thenQ_e, blockQ_n, blockQ_r, blockQ_e, kKeep_eq, loopQ_r, loopQ_e, loopQ_n, finQ_r, finQ_n, segs_nil, segs_n, segs_g, ops_nil, ops_cons, qsegs_nil, qsegs_n, qsegs_g, qops_nil, qops_cons, ot_done, ot_op, ot_or, vcqOp, vcOp, isRd, RO.isGh, skip_mk, skipL, ev, evL, gvL, scL, look, updL, put_mk, put_mk0, keep_mk, keepL, rowE, rowD, bndN, binV, binC, unV, GV.getT, GV.fld, GV.sz, GV.same, GV.setT, Value.oneCell', cond_true, cond_false, Nat.reduceEqDiff, Nat.reduceAdd, Nat.reduceMul, Nat.reduceSub, Nat.reduceBEq, Nat.reduceLeDiff, ↓reduceIte, reduceCtorEq, List.nil_append, List.cons_append, List.append_nil, Nat.zero_add, Nat.add_zero, Bool.and_true, Bool.true_and, Bool.not_true, Bool.not_false, BEq.rfl, decide_true, decide_false, true_and, and_true, initF, initP, List.map_cons, List.map_nil, Option.map_some, szAll, List.length_cons, List.length_nil, finW_r, finW_n, resL, resOne, Option.bind_some, true_imp_iff, false_imp_iff, Bool.true_eq_false, Bool.false_eq_true, Int.toNat_natCast, Int.reduceToNat, Int.reduceLE, Int.reduceLT, Int.reduceAdd, Int.reduceSub, Int.reduceEq, decide_eq_true_eq, decide_eq_false_iff_not, kill, SV.mentions, ne_eq, not_false_eq_true, not_true_eq_false, List.drop_zero, List.take_succ_cons, List.take_zero, dOk, ↓br_tt, ↓br_ff, ↓br_tf, ↓br_ft, br_t, br_f, Bool.bne_false, Bool.bne_true, GV.bldT, GV.bldC, gVec_get, gVec_set, gVec_arr, gVec_fits, gVec_sz, gVec_sameT, gVec_zero, gVec_isS, gVec2_get, gVec2_arr, gVec2_fits, gVec2_sz, gVec2_sameT, gVec2_zero, gVec2_set, same_int, getT_nil, setT_nil, getD_gi, List.length_map, fits_s, fits_c, fits_ar, arr_ar, get_nil, gPart_sz, gPart_fits, gPart_isS, gPart_same, gPart_fld0, gPart_get0, gPart_set0, gPart_fld1, gPart_get1, gPart_set1, gPart_fld2, gPart_get2, gPart_set2, gPart_fld3, gPart_get3, gPart_set3, gPart_zero, getD_gPart]
    exact fin_m m' rfl (fun _ _ h => h) ⟨_, rfl, h.1, h.2.1, h.2.2.1, ho, hs⟩

/-- The parts' bytes, each in memory of its own. -/
def DatsO (m : PH) (ps : List Part) (al : List AP) : Prop := ps.length = al.length ∧ ∃ f : Nat → PH, (∀ i, i < al.length → PH.sub (f i) m ∧ PartO (f i) (ps.getD i zPart) (al.getD i zAP)) ∧ ∀ i j, i < j → j < al.length → dis (f i) (f j)
theorem DatsO.nil (m : PH) : DatsO m [] [] := ⟨rfl, fun _ => PH.no, fun i h => by simp at h, fun i j _ h => by simp at h⟩
theorem getD_snoc_lt {α : Type} (l : List α) (x d : α) {i : Nat} (h : i < l.length) : (l ++ [x]).getD i d = l.getD i d := by
  simp [List.getD, List.getElem?_append_left h]
theorem getD_snoc_eq {α : Type} (l : List α) (x d : α) : (l ++ [x]).getD l.length d = x := by simp [List.getD]
theorem DatsO.snoc {m u : PH} {ps : List Part} {al : List AP} {p : Part} {a : AP} (h : DatsO m ps al) (hp : PartO u p a) (hd : dis u m) : DatsO (uni u m) (ps ++ [p]) (al ++ [a]) := by
  obtain ⟨hl, f, h1, h2⟩ := h
  refine ⟨by simp [hl], fun i => if i = al.length then u else f i, fun i hi => ?_, fun i j hij hj => ?_⟩
  · simp only [List.length_append, List.length_singleton] at hi
    by_cases e : i = al.length
    · subst e
      simp only [if_true]
      refine ⟨sub_uni_l _ _, ?_⟩
      rw [getD_snoc_eq, ← hl, getD_snoc_eq]
      exact hp
    · have hlt : i < al.length := by omega
      simp only [e, if_false]
      rw [getD_snoc_lt _ _ _ hlt, getD_snoc_lt _ _ _ (by omega)]
      exact ⟨PH.sub_trans (h1 i hlt).1 (sub_uni_r hd), (h1 i hlt).2⟩
  · simp only [List.length_append, List.length_singleton] at hj
    have hi : i ≠ al.length := by omega
    simp only [hi, if_false]
    by_cases e : j = al.length
    · simp only [e, if_true]
      exact dis_comm (dis_sub hd (h1 i (by omega)).1)
    · simp only [e, if_false]
      exact h2 i j hij (by omega)
theorem DatsO.toR {m : PH} {ps : List Part} {al : List AP} (h : DatsO m ps al) : PartsR' m ps al := by
  obtain ⟨hl, f, h1, _⟩ := h
  have key : ∀ (ps : List Part) (al : List AP), ps.length = al.length → (∀ i, i < al.length → PartR m (ps.getD i zPart) (al.getD i zAP)) → PartsR' m ps al := by
    intro ps
    induction ps with
    | nil => intro al hl _; cases al with
      | nil => trivial
      | cons a al => simp at hl
    | cons p ps ih => intro al hl h; cases al with
      | nil => simp at hl
      | cons a al =>
        refine ⟨by simpa using h 0 (by simp), ih al (by simpa using hl) fun i hi => ?_⟩
        have := h (i + 1) (by simpa using hi)
        simpa using this
  exact key ps al hl fun i hi => (h1 i hi).2.toR.up (h1 i hi).1
theorem DatsO.up {m m' : PH} {ps : List Part} {al : List AP} (h : DatsO m ps al) (hs : PH.sub m m') : DatsO m' ps al := by
  obtain ⟨hl, f, h1, h2⟩ := h
  exact ⟨hl, f, fun i hi => ⟨PH.sub_trans (h1 i hi).1 hs, (h1 i hi).2⟩, h2⟩
theorem DatsO.okl {m : PH} {ps : List Part} {al : List AP} (h : DatsO m ps al) : ∀ p ∈ ps, (gPart p).ok := by
  intro p hp
  obtain ⟨i, hi, rfl⟩ := List.mem_iff_getElem.1 hp
  obtain ⟨hl, f, h1, _⟩ := h
  have := (h1 i (by omega)).2.ok
  simpa [List.getD, hi] using this

/-- Parts in memory of their own. -/
def PartsO (m : PH) (v : Value) (al : List AP) : Prop := v.oneCell' = true ∧ ∃ ps m1 m2, m = uni m1 m2 ∧ dis m1 m2 ∧ SlO m1 v 43 4 (ps.map gPart) ∧ DatsO m2 ps al
theorem PartsO.toR {m : PH} {v : Value} {al : List AP} (h : PartsO m v al) : PartsR m v al := by
  obtain ⟨_, ps, m1, m2, rfl, hd, h1, h2⟩ := h
  exact ⟨ps, h1.toR.up (sub_uni_l _ _), h2.toR.up (sub_uni_r hd)⟩
def TwinsQ (al : List AP) (rs : List GV) (m' : PH) : Prop := ∃ v', rs = [.s v'] ∧ PartsO m' v' al

theorem twins_spec (w : World) (v : Value) (al : List AP) (hb : al.length * 48 ≤ 140737488351232) (hd : ∀ a ∈ al, a.data.length ≤ 140737488351232) (u : PH) (hu : u.le w) (h : PartsR u v al) : Spec Try.prog f_boot_twins [v] PH.no w (TwinsQ al) := by
  obtain ⟨ps, hs, hp⟩ := h
  have hl := hp.len
  refine spec_of k_boot_twins [.ro v 4 (gPart zPart) (ps.map gPart)] (by simp) (by simpa [AV.ok, u0_no] using hs.up hu.sub) ?_
  simp (maxSteps := 2000000) only [c_boot_twins, vc_skip, vc_ret, vc_exit, vc_seq, vc_block, vc_rg, vc_rgq, vc_rga, vc_ite, thenQ_n, thenQ_r, thenQ_e, blockQ_n, blockQ_r, blockQ_e, kKeep_eq, loopQ_r, loopQ_e, loopQ_n, finQ_r, finQ_n, segs_nil, segs_n, segs_g, ops_nil, ops_cons, qsegs_nil, qsegs_n, qsegs_g, qops_nil, qops_cons, ot_done, ot_op, ot_or, vcqOp, vcOp, isRd, RO.isGh, skip_mk, skipL, ev, evL, gvL, scL, look, updL, put_mk, put_mk0, keep_mk, keepL, rowE, rowD, bndN, binV, binC, unV, GV.getT, GV.fld, GV.sz, GV.same, GV.setT, Value.oneCell', cond_true, cond_false, Nat.reduceEqDiff, Nat.reduceAdd, Nat.reduceMul, Nat.reduceSub, Nat.reduceBEq, Nat.reduceLeDiff, ↓reduceIte, reduceCtorEq, List.nil_append, List.cons_append, List.append_nil, Nat.zero_add, Nat.add_zero, Bool.and_true, Bool.true_and, Bool.not_true, Bool.not_false, BEq.rfl, decide_true, decide_false, true_and, and_true, initF, initP, List.map_cons, List.map_nil, Option.map_some, szAll, List.length_cons, List.length_nil, finW_r, finW_n, resL, resOne, Option.bind_some, true_imp_iff, false_imp_iff, Bool.true_eq_false, Bool.false_eq_true, Int.toNat_natCast, Int.reduceToNat, Int.reduceLE, Int.reduceLT, Int.reduceAdd, Int.reduceSub, Int.reduceEq, decide_eq_true_eq, decide_eq_false_iff_not, kill, SV.mentions, ne_eq, not_false_eq_true, not_true_eq_false, List.drop_zero, List.take_succ_cons, List.take_zero, dOk, ↓br_tt, ↓br_ff, ↓br_tf, ↓br_ft, br_t, br_f, Bool.bne_false, Bool.bne_true, GV.bldT, GV.bldC, gVec_get, gVec_set, gVec_arr, gVec_fits, gVec_sz, gVec_sameT, gVec_zero, gVec_isS, gVec2_get, gVec2_arr, gVec2_fits, gVec2_sz, gVec2_sameT, gVec2_zero, gVec2_set, same_int, getT_nil, setT_nil, getD_gi, List.length_map, fits_s, fits_c, fits_ar, arr_ar, get_nil, gPart_sz, gPart_fits, gPart_isS, gPart_same, gPart_fld0, gPart_get0, gPart_set0, gPart_fld1, gPart_get1, gPart_set1, gPart_fld2, gPart_get2, gPart_set2, gPart_fld3, gPart_get3, gPart_set3, gPart_zero, getD_gPart]
  refine gh_nil 3 3 43 4 (gPart zPart) rfl rfl ?_
  simp (maxSteps := 2000000) only [vc_skip, vc_ret, vc_exit, vc_seq, vc_block, vc_rg, vc_rgq, vc_rga, vc_ite, thenQ_n, thenQ_r, thenQ_e, blockQ_n, blockQ_r, blockQ_e, kKeep_eq, loopQ_r, loopQ_e, loopQ_n, finQ_r, finQ_n, segs_nil, segs_n, segs_g, ops_nil, ops_cons, qsegs_nil, qsegs_n, qsegs_g, qops_nil, qops_cons, ot_done, ot_op, ot_or, vcqOp, vcOp, isRd, RO.isGh, skip_mk, skipL, ev, evL, gvL, scL, look, updL, put_mk, put_mk0, keep_mk, keepL, rowE, rowD, bndN, binV, binC, unV, GV.getT, GV.fld, GV.sz, GV.same, GV.setT, Value.oneCell', cond_true, cond_false, Nat.reduceEqDiff, Nat.reduceAdd, Nat.reduceMul, Nat.reduceSub, Nat.reduceBEq, Nat.reduceLeDiff, ↓reduceIte, reduceCtorEq, List.nil_append, List.cons_append, List.append_nil, Nat.zero_add, Nat.add_zero, Bool.and_true, Bool.true_and, Bool.not_true, Bool.not_false, BEq.rfl, decide_true, decide_false, true_and, and_true, initF, initP, List.map_cons, List.map_nil, Option.map_some, szAll, List.length_cons, List.length_nil, finW_r, finW_n, resL, resOne, Option.bind_some, true_imp_iff, false_imp_iff, Bool.true_eq_false, Bool.false_eq_true, Int.toNat_natCast, Int.reduceToNat, Int.reduceLE, Int.reduceLT, Int.reduceAdd, Int.reduceSub, Int.reduceEq, decide_eq_true_eq, decide_eq_false_iff_not, kill, SV.mentions, ne_eq, not_false_eq_true, not_true_eq_false, List.drop_zero, List.take_succ_cons, List.take_zero, dOk, ↓br_tt, ↓br_ff, ↓br_tf, ↓br_ft, br_t, br_f, Bool.bne_false, Bool.bne_true, GV.bldT, GV.bldC, gVec_get, gVec_set, gVec_arr, gVec_fits, gVec_sz, gVec_sameT, gVec_zero, gVec_isS, gVec2_get, gVec2_arr, gVec2_fits, gVec2_sz, gVec2_sameT, gVec2_zero, gVec2_set, same_int, getT_nil, setT_nil, getD_gi, List.length_map, fits_s, fits_c, fits_ar, arr_ar, get_nil, gPart_sz, gPart_fits, gPart_isS, gPart_same, gPart_fld0, gPart_get0, gPart_set0, gPart_fld1, gPart_get1, gPart_set1, gPart_fld2, gPart_get2, gPart_set2, gPart_fld3, gPart_get3, gPart_set3, gPart_zero, getD_gPart]
  refine vc_loop (ι := Nat × List Part × PH) (fun p => ⟨[(3, .row 3 0 (p.2.1.length)), (6, .row 0 0 (ps.length)), (7, .g (.s (.int .i64 (ps.length)))), (8, .g (.s (.int .i64 (p.1))))], [(0, .ro 4 (gPart zPart) (ps.map gPart)), (3, .row 43 4 (gPart zPart) (p.2.1.map gPart))], [], p.2.2⟩)
    (fun p => p.1 ≤ al.length ∧ DatsO p.2.2 p.2.1 (al.take p.1)) (fun p => al.length - p.1) (0, [], PH.no) ⟨by simp, by simpa using DatsO.nil _⟩ (ge_of ?_ ?_ rfl rfl rfl) ?_
  · simp [frIn, look]
  · simp [pvIn, look]
  rintro ⟨i, qs, M⟩ ⟨hi, hq⟩
  simp only at hi hq
  have hql : qs.length = i := by have := hq.1; rw [this]; simp; omega
  generalize hQ : loopQ _ _ _ _ _ = Q
  simp (maxSteps := 2000000) only [c_boot_twins_L0, vc_skip, vc_ret, vc_exit, vc_seq, vc_block, vc_rg, vc_rgq, vc_rga, vc_ite, thenQ_n, thenQ_r, thenQ_e, blockQ_n, blockQ_r, blockQ_e, kKeep_eq, loopQ_r, loopQ_e, loopQ_n, finQ_r, finQ_n, segs_nil, segs_n, segs_g, ops_nil, ops_cons, qsegs_nil, qsegs_n, qsegs_g, qops_nil, qops_cons, ot_done, ot_op, ot_or, vcqOp, vcOp, isRd, RO.isGh, skip_mk, skipL, ev, evL, gvL, scL, look, updL, put_mk, put_mk0, keep_mk, keepL, rowE, rowD, bndN, binV, binC, unV, GV.getT, GV.fld, GV.sz, GV.same, GV.setT, Value.oneCell', cond_true, cond_false, Nat.reduceEqDiff, Nat.reduceAdd, Nat.reduceMul, Nat.reduceSub, Nat.reduceBEq, Nat.reduceLeDiff, ↓reduceIte, reduceCtorEq, List.nil_append, List.cons_append, List.append_nil, Nat.zero_add, Nat.add_zero, Bool.and_true, Bool.true_and, Bool.not_true, Bool.not_false, BEq.rfl, decide_true, decide_false, true_and, and_true, initF, initP, List.map_cons, List.map_nil, Option.map_some, szAll, List.length_cons, List.length_nil, finW_r, finW_n, resL, resOne, Option.bind_some, true_imp_iff, false_imp_iff, Bool.true_eq_false, Bool.false_eq_true, Int.toNat_natCast, Int.reduceToNat, Int.reduceLE, Int.reduceLT, Int.reduceAdd, Int.reduceSub, Int.reduceEq, decide_eq_true_eq, decide_eq_false_iff_not, kill, SV.mentions, ne_eq, not_false_eq_true, not_true_eq_false, List.drop_zero, List.take_succ_cons, List.take_zero, dOk, ↓br_tt, ↓br_ff, ↓br_tf, ↓br_ft, br_t, br_f, Bool.bne_false, Bool.bne_true, GV.bldT, GV.bldC, gVec_get, gVec_set, gVec_arr, gVec_fits, gVec_sz, gVec_sameT, gVec_zero, gVec_isS, gVec2_get, gVec2_arr, gVec2_fits, gVec2_sz, gVec2_sameT, gVec2_zero, gVec2_set, same_int, getT_nil, setT_nil, getD_gi, List.length_map, fits_s, fits_c, fits_ar, arr_ar, get_nil, gPart_sz, gPart_fits, gPart_isS, gPart_same, gPart_fld0, gPart_get0, gPart_set0, gPart_fld1, gPart_get1, gPart_set1, gPart_fld2, gPart_get2, gPart_set2, gPart_fld3, gPart_get3, gPart_set3, gPart_zero, getD_gPart]
  refine ⟨fun h => ⟨by omega, ?_⟩, fun h => ?_⟩
  · have hil : i < al.length := by omega
    have ha := hp.at i hil
    generalize hpi : ps.getD i zPart = p at *
    have hda : (al.getD i zAP).data.length ≤ 140737488351232 := hd _ (by
      simp only [List.getD, hil, List.getElem?_eq_getElem, Option.getD_some]
      exact List.getElem_mem hil)
    refine call_ownd (dOk_spec rfl) rfl (Q := TwinQ (al.getD i zAP)) (fun w' vs hv hw _ => ?_) fun rs m' hok hq' hdm => ?_
    · obtain ⟨vs, rfl, _, hv⟩ := argsV_g hv
      obtain rfl := argsV_nil hv
      have hu' : u.le w' := fun b o hb => hw b o (by rw [u0_no]; exact hu b o hb)
      exact twin_spec w' p _ hda u hu' ha
    · obtain ⟨p', rfl, hp'⟩ := hq'
      simp (maxSteps := 2000000) only [retS, vc_skip, vc_ret, vc_exit, vc_seq, vc_block, vc_rg, vc_rgq, vc_rga, vc_ite, thenQ_n, thenQ_r, thenQ_e, blockQ_n, blockQ_r, blockQ_e, kKeep_eq, loopQ_r, loopQ_e, loopQ_n, finQ_r, finQ_n, segs_nil, segs_n, segs_g, ops_nil, ops_cons, qsegs_nil, qsegs_n, qsegs_g, qops_nil, qops_cons, ot_done, ot_op, ot_or, vcqOp, vcOp, isRd, RO.isGh, skip_mk, skipL, ev, evL, gvL, scL, look, updL, put_mk, put_mk0, keep_mk, keepL, rowE, rowD, bndN, binV, binC, unV, GV.getT, GV.fld, GV.sz, GV.same, GV.setT, Value.oneCell', cond_true, cond_false, Nat.reduceEqDiff, Nat.reduceAdd, Nat.reduceMul, Nat.reduceSub, Nat.reduceBEq, Nat.reduceLeDiff, ↓reduceIte, reduceCtorEq, List.nil_append, List.cons_append, List.append_nil, Nat.zero_add, Nat.add_zero, Bool.and_true, Bool.true_and, Bool.not_true, Bool.not_false, BEq.rfl, decide_true, decide_false, true_and, and_true, initF, initP, List.map_cons, List.map_nil, Option.map_some, szAll, List.length_cons, List.length_nil, finW_r, finW_n, resL, resOne, Option.bind_some, true_imp_iff, false_imp_iff, Bool.true_eq_false, Bool.false_eq_true, Int.toNat_natCast, Int.reduceToNat, Int.reduceLE, Int.reduceLT, Int.reduceAdd, Int.reduceSub, Int.reduceEq, decide_eq_true_eq, decide_eq_false_iff_not, kill, SV.mentions, ne_eq, not_false_eq_true, not_true_eq_false, List.drop_zero, List.take_succ_cons, List.take_zero, dOk, ↓br_tt, ↓br_ff, ↓br_tf, ↓br_ft, br_t, br_f, Bool.bne_false, Bool.bne_true, GV.bldT, GV.bldC, gVec_get, gVec_set, gVec_arr, gVec_fits, gVec_sz, gVec_sameT, gVec_zero, gVec_isS, gVec2_get, gVec2_arr, gVec2_fits, gVec2_sz, gVec2_sameT, gVec2_zero, gVec2_set, same_int, getT_nil, setT_nil, getD_gi, List.length_map, fits_s, fits_c, fits_ar, arr_ar, get_nil, gPart_sz, gPart_fits, gPart_isS, gPart_same, gPart_fld0, gPart_get0, gPart_set0, gPart_fld1, gPart_get1, gPart_set1, gPart_fld2, gPart_get2, gPart_set2, gPart_fld3, gPart_get3, gPart_set3, gPart_zero, getD_gPart]
      refine ⟨by omega, ?_⟩
      subst hQ; simp only [loopQ_n]; refine ⟨(i + 1, qs ++ [p'], uni m' M), ?_, ?_, ge_of ?_ ?_ rfl rfl rfl⟩
      · refine ⟨hil, ?_⟩
        simp only
        rw [take_s al i zAP hil]
        exact hq.snoc hp' hdm
      · simp only; omega
      · simp only [frIn, vc_skip, vc_ret, vc_exit, vc_seq, vc_block, vc_rg, vc_rgq, vc_rga, vc_ite, thenQ_n, thenQ_r, thenQ_e, blockQ_n, blockQ_r, blockQ_e, kKeep_eq, loopQ_r, loopQ_e, loopQ_n, finQ_r, finQ_n, segs_nil, segs_n, segs_g, ops_nil, ops_cons, qsegs_nil, qsegs_n, qsegs_g, qops_nil, qops_cons, ot_done, ot_op, ot_or, vcqOp, vcOp, isRd, RO.isGh, skip_mk, skipL, ev, evL, gvL, scL, look, updL, put_mk, put_mk0, keep_mk, keepL, rowE, rowD, bndN, binV, binC, unV, GV.getT, GV.fld, GV.sz, GV.same, GV.setT, Value.oneCell', cond_true, cond_false, Nat.reduceEqDiff, Nat.reduceAdd, Nat.reduceMul, Nat.reduceSub, Nat.reduceBEq, Nat.reduceLeDiff, ↓reduceIte, reduceCtorEq, List.nil_append, List.cons_append, List.append_nil, Nat.zero_add, Nat.add_zero, Bool.and_true, Bool.true_and, Bool.not_true, Bool.not_false, BEq.rfl, decide_true, decide_false, true_and, and_true, initF, initP, List.map_cons, List.map_nil, Option.map_some, szAll, List.length_cons, List.length_nil, finW_r, finW_n, resL, resOne, Option.bind_some, true_imp_iff, false_imp_iff, Bool.true_eq_false, Bool.false_eq_true, Int.toNat_natCast, Int.reduceToNat, Int.reduceLE, Int.reduceLT, Int.reduceAdd, Int.reduceSub, Int.reduceEq, decide_eq_true_eq, decide_eq_false_iff_not, kill, SV.mentions, ne_eq, not_false_eq_true, not_true_eq_false, List.drop_zero, List.take_succ_cons, List.take_zero, dOk, ↓br_tt, ↓br_ff, ↓br_tf, ↓br_ft, br_t, br_f, Bool.bne_false, Bool.bne_true, GV.bldT, GV.bldC]
        rw [wrap_n (by omega)]
        simp
      · simp [pvIn, look]
  · subst hQ
    simp (maxSteps := 2000000) only [vc_skip, vc_ret, vc_exit, vc_seq, vc_block, vc_rg, vc_rgq, vc_rga, vc_ite, thenQ_n, thenQ_r, thenQ_e, blockQ_n, blockQ_r, blockQ_e, kKeep_eq, loopQ_r, loopQ_e, loopQ_n, finQ_r, finQ_n, segs_nil, segs_n, segs_g, ops_nil, ops_cons, qsegs_nil, qsegs_n, qsegs_g, qops_nil, qops_cons, ot_done, ot_op, ot_or, vcqOp, vcOp, isRd, RO.isGh, skip_mk, skipL, ev, evL, gvL, scL, look, updL, put_mk, put_mk0, keep_mk, keepL, rowE, rowD, bndN, binV, binC, unV, GV.getT, GV.fld, GV.sz, GV.same, GV.setT, Value.oneCell', cond_true, cond_false, Nat.reduceEqDiff, Nat.reduceAdd, Nat.reduceMul, Nat.reduceSub, Nat.reduceBEq, Nat.reduceLeDiff, ↓reduceIte, reduceCtorEq, List.nil_append, List.cons_append, List.append_nil, Nat.zero_add, Nat.add_zero, Bool.and_true, Bool.true_and, Bool.not_true, Bool.not_false, BEq.rfl, decide_true, decide_false, true_and, and_true, initF, initP, List.map_cons, List.map_nil, Option.map_some, szAll, List.length_cons, List.length_nil, finW_r, finW_n, resL, resOne, Option.bind_some, true_imp_iff, false_imp_iff, Bool.true_eq_false, Bool.false_eq_true, Int.toNat_natCast, Int.reduceToNat, Int.reduceLE, Int.reduceLT, Int.reduceAdd, Int.reduceSub, Int.reduceEq, decide_eq_true_eq, decide_eq_false_iff_not, kill, SV.mentions, ne_eq, not_false_eq_true, not_true_eq_false, List.drop_zero, List.take_succ_cons, List.take_zero, dOk, ↓br_tt, ↓br_ff, ↓br_tf, ↓br_ft, br_t, br_f, Bool.bne_false, Bool.bne_true, GV.bldT, GV.bldC, gVec_get, gVec_set, gVec_arr, gVec_fits, gVec_sz, gVec_sameT, gVec_zero, gVec_isS, gVec2_get, gVec2_arr, gVec2_fits, gVec2_sz, gVec2_sameT, gVec2_zero, gVec2_set, same_int, getT_nil, setT_nil, getD_gi, List.length_map, fits_s, fits_c, fits_ar, arr_ar, get_nil, gPart_sz, gPart_fits, gPart_isS, gPart_same, gPart_fld0, gPart_get0, gPart_set0, gPart_fld1, gPart_get1, gPart_set1, gPart_fld2, gPart_get2, gPart_set2, gPart_fld3, gPart_get3, gPart_set3, gPart_zero, getD_gPart]
    have hi' : i = al.length := by omega
    rw [List.take_of_length_le (by omega)] at hq
    refine gh_pub 2 3 _ rfl rfl (by simp) fun v' u' ho hs' hd' => ?_
    simp (maxSteps := 2000000) only [vc_skip, vc_ret, vc_exit, vc_seq, vc_block, vc_rg, vc_rgq, vc_rga, vc_ite, thenQ_n, thenQ_r, thenQ_e, blockQ_n, blockQ_r, blockQ_e, kKeep_eq, loopQ_r, loopQ_e, loopQ_n, finQ_r, finQ_n, segs_nil, segs_n, segs_g, ops_nil, ops_cons, qsegs_nil, qsegs_n, qsegs_g, qops_nil, qops_cons, ot_done, ot_op, ot_or, vcqOp, vcOp, isRd, RO.isGh, skip_mk, skipL, ev, evL, gvL, scL, look, updL, put_mk, put_mk0, keep_mk, keepL, rowE, rowD, bndN, binV, binC, unV, GV.getT, GV.fld, GV.sz, GV.same, GV.setT, Value.oneCell', cond_true, cond_false, Nat.reduceEqDiff, Nat.reduceAdd, Nat.reduceMul, Nat.reduceSub, Nat.reduceBEq, Nat.reduceLeDiff, ↓reduceIte, reduceCtorEq, List.nil_append, List.cons_append, List.append_nil, Nat.zero_add, Nat.add_zero, Bool.and_true, Bool.true_and, Bool.not_true, Bool.not_false, BEq.rfl, decide_true, decide_false, true_and, and_true, initF, initP, List.map_cons, List.map_nil, Option.map_some, szAll, List.length_cons, List.length_nil, finW_r, finW_n, resL, resOne, Option.bind_some, true_imp_iff, false_imp_iff, Bool.true_eq_false, Bool.false_eq_true, Int.toNat_natCast, Int.reduceToNat, Int.reduceLE, Int.reduceLT, Int.reduceAdd, Int.reduceSub, Int.reduceEq, decide_eq_true_eq, decide_eq_false_iff_not, kill, SV.mentions, ne_eq, not_false_eq_true, not_true_eq_false, List.drop_zero, List.take_succ_cons, List.take_zero, dOk, ↓br_tt, ↓br_ff, ↓br_tf, ↓br_ft, br_t, br_f, Bool.bne_false, Bool.bne_true, GV.bldT, GV.bldC, gVec_get, gVec_set, gVec_arr, gVec_fits, gVec_sz, gVec_sameT, gVec_zero, gVec_isS, gVec2_get, gVec2_arr, gVec2_fits, gVec2_sz, gVec2_sameT, gVec2_zero, gVec2_set, same_int, getT_nil, setT_nil, getD_gi, List.length_map, fits_s, fits_c, fits_ar, arr_ar, get_nil, gPart_sz, gPart_fits, gPart_isS, gPart_same, gPart_fld0, gPart_get0, gPart_set0, gPart_fld1, gPart_get1, gPart_set1, gPart_fld2, gPart_get2, gPart_set2, gPart_fld3, gPart_get3, gPart_set3, gPart_zero, getD_gPart]
    exact fin_m (uni u' M) rfl (fun _ _ h => h) ⟨v', rfl, ho, qs, u', M, rfl, hd', hs', hq⟩
end Go.Proofs.Ytgkdipfmhjlbhaa.Vc
