/- PathLeads: where what is read is of bulk at most the row's bound, the law answers true and leaves its arguments as they were: the row with a bound, and its card. -/
import Derived.Test.YtnoeabmpdjpfaaaGreatDoorProg
import Derived.Test.YtnoeabmpdjpfaaaGreatDoorCards
import Derived.Test.YtnoeabmpdjpfaaaGreatDoorTie
import Derived.Deep.DeepWitnessRowRef
import Derived.Shelf.Vars
import Derived.Test.YtnoeabmpdjpfaaaGreatDoorZPathLeadsU5
/- The document's tree: the guard. -/
set_option linter.unusedVariables false
set_option linter.unusedSimpArgs false
set_option maxRecDepth 100000
namespace Go.Proofs.YtnoeabmpdjpfaaaGreatDoor.Vc
open Go Go.Proofs

def belowV (v : Int → Option AN) : Nat → Int → Int → Bool
  | 0, _, _ => false
  | f + 1, n, a => if n = a then true else match v n with
    | none => false
    | some x => if topB n = true then false else belowV v f x.parent a
theorem belowA_V {T : PT} : ∀ (f : Nat) (n a : Int), belowA T f n a = belowV T.view f n a
  | 0, _, _ => rfl
  | f + 1, n, a => by
    unfold belowA belowV
    cases h : T.get n with
    | none => rw [PT.view_none.2 h]
    | some x =>
      rw [PT.view_get h]
      simp only
      rw [belowA_V f]
      rfl
theorem belowV_none {v : Int → Option AN} {f : Nat} {n a : Int} (h : v n = none) (ha : v a ≠ none) : belowV v f n a = false := by
  cases f with
  | zero => rfl
  | succ f =>
    rw [belowV, if_neg (fun e => ha (by rw [← e]; exact h)), h]

theorem rBelow_spec (w : World) (A m : PH) (hm : m.le w) (b : Nat) (l : List TN) (ls : List (List TN)) (h : RM A m b l ls) (hL : LOk l) (hg : VGood (viewL l)) (n a : Int) (f0 : Nat) (hf : ∀ k, LeadsN (viewL l) k n → k < f0) (hl : l.length ≤ 1099511627776) :
    Spec Tryz.prog f_ref12_Tree_Below [ptr b, .int .i64 n, .int .i64 a] PH.no w fun rs _ => rs = [.s (.bool (isL l a && belowV (viewL l) f0 n a))] := by
  refine spec_val k_ref12_Tree_Below (Qf := fun rs => rs = [.s (.bool (isL l a && belowV (viewL l) f0 n a))]) [.g (.s (ptr b)), .g (.s (.int .i64 n)), .g (.s (.int .i64 a))] (by simp) (by simp [AV.ok, GV.ok, Value.oneCell', ptr]) ?_
  obtain ⟨b2, o2, c, ts, hlts, h0, hts, _, hs0, hsi⟩ := h.look
  have hk : ∀ {l : List PH}, KN (⟨Tryz.prog, 37, w, PH.no⟩ : Ctx).u0 l m := kn_u hm
  have hfind : ∀ (w' : World) (n : Int), (⟨Tryz.prog, 37, w, PH.no⟩ : Ctx).u0.le w' → Spec Tryz.prog f_ref12_Tree_find [ptr b, .int .i64 n] PH.no w' fun rs _ => rs = [.s (.int .i64 (findL l n)), .s (.bool (isL l n))] := fun w' n hw =>
    find_spec w' A m (fun b o h => hw b o (by rw [u0_no]; exact hm b o h)) b l ls h n (by omega)
  simp (maxSteps := 2000000) only [c_ref12_Tree_Below, vc_seq, vc_rg, thenQ_n, kKeep_eq, segs_nil, segs_n, ops_nil, ops_cons, vcOp, ev, look, put_mk, keep_mk, keepL, Value.oneCell', cond_true, Nat.reduceEqDiff, Nat.reduceAdd, ↓reduceIte, reduceCtorEq, Nat.zero_add, initF, initP, Int.reduceAdd, ptr]
  refine call_is _ [.s (.int .i64 (findL l a)), .s (.bool (isL l a))] rfl rfl (fun w' vs hv hw => ?_) ?_
  · obtain ⟨vs, rfl, _, hv⟩ := argsV_g hv
    obtain ⟨vs, rfl, _, hv⟩ := argsV_g hv
    obtain rfl := argsV_nil hv
    intro _
    exact hfind w' a hw
  simp (maxSteps := 2000000) only [retS, List.getElem?_cons_zero, List.getElem?_cons_succ, vc_seq, vc_block, thenQ_n, kKeep_eq, segs_nil, ops_nil, ops_cons, vcOp, ev, look, put_mk, keep_mk, keepL, Nat.reduceEqDiff, ↓reduceIte, reduceCtorEq]
  refine vc_loop (ι := Int × Nat × Nat) (fun q => ⟨[(0, .g (.s (.pointer (some ⟨b, 0, none⟩)))), (1, .g (.s (.int .i64 (q.1)))), (2, .g (.s (.int .i64 (a)))), (8, .g (.s (.bool (isL l a))))], [], [], PH.no⟩)
    (fun q => (isL l a = true → belowV (viewL l) f0 n a = belowV (viewL l) q.2.2 q.1 a) ∧ ((viewL l q.1 = none ∧ q.2.1 = 0) ∨ ∃ k, q.2.1 = k + 1 ∧ viewL l q.1 ≠ none ∧ LeadsN (viewL l) k q.1) ∧ q.2.1 ≤ q.2.2) (fun q => q.2.1)
    (n, (if h : viewL l n = none then 0 else Classical.choose (hg.led n h) + 1), f0) ⟨fun _ => rfl, ?_, ?_⟩ (ge_of ?_ ?_ rfl rfl rfl) ?_
  · simp only
    by_cases hn : viewL l n = none
    · exact .inl ⟨hn, by rw [dif_pos hn]⟩
    · exact .inr ⟨_, by rw [dif_neg hn], hn, Classical.choose_spec (hg.led n hn)⟩
  · simp only
    split
    · omega
    · rename_i hn
      exact hf _ (Classical.choose_spec (hg.led n hn))
  · simp [frIn, look]
  · simp [pvIn, look]
  rintro ⟨x, k', f⟩ ⟨hb, hx, hkf⟩
  simp only at hb hx hkf
  generalize hQ : loopQ _ _ _ _ _ = Q
  simp (maxSteps := 2000000) only [c_ref12_Tree_Below_L0, vc_skip, vc_exit, vc_seq, vc_block, vc_rg, vc_ite, thenQ_n, thenQ_e, kKeep_eq, segs_nil, segs_n, ops_nil, ops_cons, vcOp, ev, look, put_mk, keep_mk, keepL, Nat.reduceEqDiff, ↓reduceIte, reduceCtorEq, br_t]
  refine ⟨fun his => ?_, fun hno => ?_⟩
  · have ha : viewL l a ≠ none := by rw [isL_view] at his; exact Option.isSome_iff_ne_none.1 his
    have hb := hb his
    refine call_is _ [.s (.int .i64 (findL l x)), .s (.bool (isL l x))] rfl rfl (fun w' vs hv hw => ?_) ?_
    · obtain ⟨vs, rfl, _, hv⟩ := argsV_g hv
      obtain ⟨vs, rfl, _, hv⟩ := argsV_g hv
      obtain rfl := argsV_nil hv
      intro _
      exact hfind w' x hw
    simp (maxSteps := 2000000) only [retS, List.getElem?_cons_zero, List.getElem?_cons_succ, vc_skip, vc_ret, vc_seq, vc_rg, vc_ite, thenQ_n, thenQ_r, blockQ_r, kKeep_eq, segs_nil, segs_n, ops_nil, ops_cons, vcOp, ev, look, put_mk, keep_mk, keepL, binV, binC, unV, Value.oneCell', cond_true, Nat.reduceEqDiff, ↓reduceIte, reduceCtorEq, Nat.add_zero, Bool.true_and, true_and, br_t]
    refine ⟨fun h1 => ?_, fun h1 => ⟨fun h2 => ?_, fun h2 => ?_⟩⟩
    · have hxn : viewL l x = none := by
        rw [Bool.not_eq_true', isL_view] at h1
        exact Option.isSome_eq_false_iff.1 h1 |> Option.isNone_iff_eq_none.1
      subst hQ
      simp (maxSteps := 2000000) only [thenQ_r, blockQ_r, loopQ_r, look, ↓reduceIte, finW_r, resL, resOne, ne_eq]
      rw [hb, belowV_none hxn ha, Bool.and_false]
    · have hxa : x = a := by simpa using h2
      have hk1 : 1 ≤ k' := by
        rcases hx with ⟨h3, _⟩ | ⟨k, h3, _⟩
        · rw [hxa] at h3; exact absurd h3 ha
        · omega
      obtain ⟨f', rfl⟩ : ∃ f', f = f' + 1 := ⟨f - 1, by omega⟩
      rw [belowV, if_pos hxa] at hb
      subst hQ
      simp (maxSteps := 2000000) only [thenQ_r, blockQ_r, loopQ_r, look, ↓reduceIte, finW_r, resL, resOne, ne_eq]
      rw [hb, his]; rfl
    · have hxa : x ≠ a := by simpa using h2
      rw [Bool.not_eq_false', isL_get] at h1
      obtain ⟨t, ht⟩ := Option.isSome_iff_exists.1 h1
      obtain ⟨hlt, hgd⟩ := getL_at ht
      have hvx : viewL l x = some ⟨t.parent, t.name, lookA t.attrs⟩ := by rw [viewL, ht]; rfl
      obtain ⟨k, hk', _, hled⟩ : ∃ k, k' = k + 1 ∧ viewL l x ≠ none ∧ LeadsN (viewL l) k x := by
        rcases hx with ⟨h3, _⟩ | h3
        · rw [hvx] at h3; cases h3
        · exact h3
      obtain ⟨f', rfl⟩ : ∃ f', f = f' + 1 := ⟨f - 1, by omega⟩
      rw [belowV, if_neg hxa, hvx] at hb
      simp only at hb
      refine ld_of _ (hs0 hk) rfl ?_
      simp (maxSteps := 2000000) only [ops_cons, vcOp, ev, look, put_mk, Nat.reduceEqDiff, ↓reduceIte, reduceCtorEq, Int.toNat_natCast]
      refine ⟨⟨by omega, by omega⟩, ld_of _ (seen_TN (hsi hk _ hlt)).2.1 rfl ?_⟩
      simp (maxSteps := 2000000) only [blockQ_n, kKeep_eq, segs_nil, ops_nil, ops_cons, vcOp, ev, look, put_mk, keep_mk, keepL, Nat.reduceEqDiff, ↓reduceIte, reduceCtorEq]
      have hpar : (ts.getD (findL l x) zTreeNode).parent = t.parent := by rw [(hts.at _ (by omega)).2.1, hgd]
      rw [hpar]
      cases htop : topB x with
      | true =>
        have hp0 : t.parent = 0 := (hg.top x _ hvx htop).1
        have hv0 : viewL l 0 = none := by
          cases h0 : viewL l 0 with
          | none => rfl
          | some y => have := hg.pos 0 y h0; omega
        subst hQ; simp only [loopQ_n]; refine ⟨(t.parent, 0, f'), ?_, ?_, ge_of ?_ ?_ rfl rfl rfl⟩
        · refine ⟨fun _ => ?_, .inl ⟨by simp only; rw [hp0]; exact hv0, rfl⟩, by simp only; omega⟩
          simp only
          rw [hb, if_pos htop, hp0, belowV_none hv0 ha]
        · simp only; omega
        · simp [frIn, look]
        · simp [pvIn, look]
      | false =>
        cases k with
        | zero => rw [show topB x = true from hled] at htop; cases htop
        | succ k =>
          obtain ⟨_, y, hy1, hy2⟩ := hled
          rw [hvx] at hy1
          cases hy1
          have hy2 : LeadsN (viewL l) k t.parent := hy2
          have hvp : viewL l t.parent ≠ none := by
            cases k with
            | zero =>
              rcases topB_iff.1 (show topB t.parent = true from hy2) with e | e <;> rw [e]
              · exact hg.one
              · exact hg.two
            | succ k => obtain ⟨_, z, hz, _⟩ := hy2; rw [hz]; simp
          subst hQ; simp only [loopQ_n]; refine ⟨(t.parent, k + 1, f'), ?_, ?_, ge_of ?_ ?_ rfl rfl rfl⟩
          · refine ⟨fun _ => ?_, .inr ⟨k, rfl, hvp, hy2⟩, by simp only; omega⟩
            simp only
            rw [hb, htop, if_neg (by simp)]
          · simp only; omega
          · simp [frIn, look]
          · simp [pvIn, look]
  · subst hQ
    simp (maxSteps := 2000000) only [vc_ret, vc_seq, vc_rg, thenQ_n, blockQ_e, kKeep_eq, loopQ_e, segs_nil, segs_n, ops_nil, ops_cons, vcOp, ev, look, put_mk, keep_mk, keepL, Value.oneCell', cond_true, ↓reduceIte, finW_r, resL, resOne, ne_eq]
    rw [hno]; rfl

theorem isL_has {l : List TN} {T : PT} (hv : viewL l = T.view) (n : Int) : isL l n = T.has n := by
  rw [isL_view, hv, PT.has, PT.view]
  cases T.get n <;> rfl
theorem rMay_spec (w : World) (A m : PH) (hm : m.le w) (b : Nat) (l : List TN) (ls : List (List TN)) (h : RM A m b l ls) (hL : LOk l) (T : PT) (hv : viewL l = T.view) (hg : VGood T.view) (op : Op) (hl : l.length ≤ 1099511627776) (hb : op.name.size ≤ 140737488355328) :
    Spec Tryz.prog f_ref12_Tree_May [ptr b, (gOp op).val] PH.no w fun rs _ => rs = [.s (.bool (mayA T op))] := by
  refine spec_val k_ref12_Tree_May (Qf := fun rs => rs = [.s (.bool (mayA T op))]) [.g (.s (ptr b)), .g (gOp op)] (by simp) (by simp [AV.ok, GV.ok, Value.oneCell', ptr, gOp_ok]) ?_
  have hw' : ∀ {w' : World}, (⟨Tryz.prog, 87, w, PH.no⟩ : Ctx).u0.le w' → m.le w' := fun hw b o h => hw b o (by rw [u0_no]; exact hm b o h)
  have hfind : ∀ (w' : World) (n : Int), (⟨Tryz.prog, 87, w, PH.no⟩ : Ctx).u0.le w' → Spec Tryz.prog f_ref12_Tree_find [ptr b, .int .i64 n] PH.no w' fun rs _ => rs = [.s (.int .i64 (findL l n)), .s (.bool (T.has n))] := fun w' n hw => by
    have := find_spec w' A m (hw' hw) b l ls h n (by omega)
    rw [isL_has hv] at this
    exact this
  simp (maxSteps := 2000000) only [c_ref12_Tree_May, vc_seq, vc_rg, thenQ_n, kKeep_eq, segs_nil, segs_n, ops_nil, ops_cons, vcOp, ev, look, updL, put_mk, keep_mk, keepL, GV.getT, Value.oneCell', cond_true, Nat.reduceEqDiff, ↓reduceIte, reduceCtorEq, List.nil_append, Nat.zero_add, Bool.true_and, Bool.not_false, true_and, initF, initP, getT_nil, fits_s, gOp_fld2, gOp_get2, ptr]
  refine call_is _ [.s (.int .i64 (findL l op.node)), .s (.bool (T.has op.node))] rfl rfl (fun w' vs hv hw => ?_) ?_
  · obtain ⟨vs, rfl, _, hv⟩ := argsV_g hv
    obtain ⟨vs, rfl, _, hv⟩ := argsV_g hv
    obtain rfl := argsV_nil hv
    intro _
    exact hfind w' op.node hw
  simp (maxSteps := 2000000) only [retS, List.getElem?_cons_zero, List.getElem?_cons_succ, vc_seq, vc_rg, thenQ_n, kKeep_eq, segs_nil, segs_n, ops_nil, ops_cons, vcOp, ev, look, put_mk, keep_mk, keepL, GV.getT, Nat.reduceEqDiff, ↓reduceIte, reduceCtorEq, List.nil_append, Bool.true_and, Bool.not_false, true_and, getT_nil, fits_s, gOp_fld3, gOp_get3]
  refine call_is _ [.s (.int .i64 (findL l op.parent)), .s (.bool (T.has op.parent))] rfl rfl (fun w' vs hv hw => ?_) ?_
  · obtain ⟨vs, rfl, _, hv⟩ := argsV_g hv
    obtain ⟨vs, rfl, _, hv⟩ := argsV_g hv
    obtain rfl := argsV_nil hv
    intro _
    exact hfind w' op.parent hw
  simp (maxSteps := 2000000) only [retS, List.getElem?_cons_zero, List.getElem?_cons_succ, vc_skip, vc_ret, vc_seq, vc_block, vc_rg, vc_ite, thenQ_n, thenQ_r, blockQ_n, blockQ_r, kKeep_eq, segs_nil, segs_n, segs_g, ops_nil, ops_cons, vcOp, RO.isGh, skip_mk, skipL, ev, look, put_mk, keep_mk, keepL, binV, binC, unV, GV.getT, Value.oneCell', cond_true, cond_false, Nat.reduceEqDiff, ↓reduceIte, reduceCtorEq, List.nil_append, Bool.true_and, Bool.not_true, Bool.not_false, true_and, finW_r, resL, resOne, decide_eq_true_eq, decide_eq_false_iff_not, ↓br_tt, ↓br_ft, br_t, getT_nil, fits_s, gOp_fld1, gOp_get1, gOp_fld2, gOp_get2, gOp_fld3, gOp_get3, gOp_fld4, gOp_get4, gOp_fld5, gOp_get5, gOp_fld6, gOp_get6]
  have hname : FnV Tryz.prog f_ref12_Name [.s (.string op.name)] [.s (.bool (nameB op.name))] := by
    have := ref_Name_fn op.name.data.toList (by simpa using hb)
    exact this
  refine ⟨fun k1 => ?_, fun k1 => ⟨fun k2 => ?_, fun k2 => ⟨fun k3 => ?_, fun k3 => ?_⟩⟩⟩
  · rw [beq_iff_eq] at k1
    have e : mayA T op = (decide (op.node > 2) && !T.has op.node && T.has op.parent && nameB op.name) := by rw [mayA, if_pos k1]
    rw [e]
    refine ⟨fun a1 => ⟨fun a2 => ⟨fun a3 => ?_, fun a3 => ?_⟩, fun a2 => ?_⟩, fun a1 => ?_⟩
    · refine call_fnv hname rfl rfl rfl fun _ => ?_
      simp (maxSteps := 2000000) only [retS, vc_ret, thenQ_n, thenQ_r, blockQ_r, kKeep_eq, segs_nil, segs_n, ops_nil, ops_cons, vcOp, ev, look, put_mk, keep_mk, keepL, Value.oneCell', cond_true, Nat.reduceEqDiff, ↓reduceIte, finW_r, resL, resOne, ↓br_tt]
      rw [decide_eq_true a1, a2, a3]; rfl
    · rw [a3, Bool.and_false]; rfl
    · rw [a2, Bool.and_false]; rfl
    · rw [decide_eq_false a1]; rfl
  · rw [beq_eq_false_iff_ne] at k1
    rw [beq_iff_eq] at k2
    have e : mayA T op = (T.has op.node && !topB op.node && T.has op.parent && !T.below op.parent op.node && nameB op.name) := by rw [mayA, if_neg k1, if_pos k2]
    rw [e]
    have htop : T.has op.node = true → topB op.node = decide (op.node ≤ 2) := fun hh => by
      have hpos : 0 < op.node := by
        have := has_iff.1 hh
        obtain ⟨x, hx⟩ := Option.ne_none_iff_exists'.1 this
        exact hg.pos _ _ hx
      simp only [topB]
      by_cases q1 : op.node = 1
      · simp [q1]
      · by_cases q2 : op.node = 2
        · simp [q2]
        · rw [decide_eq_false (by omega)]; simp [q1, q2]
    refine ⟨fun a1 => ⟨fun a2 => ⟨fun a3 => ?_, fun a3 => ?_⟩, fun a2 => ?_⟩, fun a1 => ?_⟩
    · have hbel : (isL l op.node && belowV (viewL l) (T.nodes.length + 1) op.parent op.node) = T.below op.parent op.node := by
        rw [isL_has hv, a1, Bool.true_and, hv, PT.below, belowA_V]
      refine call_is _ [.s (.bool (T.below op.parent op.node))] rfl rfl (fun w' vs hvv hw => ?_) ?_
      · obtain ⟨vs, rfl, _, hvv⟩ := argsV_g hvv
        obtain ⟨vs, rfl, _, hvv⟩ := argsV_g hvv
        obtain ⟨vs, rfl, _, hvv⟩ := argsV_g hvv
        obtain rfl := argsV_nil hvv
        intro _
        have := rBelow_spec w' A m (hw' hw) b l ls h hL (by rw [hv]; exact hg) op.parent op.node (T.nodes.length + 1) (fun k hk => by rw [hv] at hk; have := hk.few; omega) hl
        rw [hbel] at this
        exact this
      simp (maxSteps := 2000000) only [retS, vc_ret, thenQ_n, thenQ_r, blockQ_r, kKeep_eq, segs_nil, segs_n, segs_g, ops_nil, ops_cons, vcOp, RO.isGh, skip_mk, skipL, ev, look, put_mk, keep_mk, keepL, unV, GV.getT, Value.oneCell', cond_true, cond_false, Nat.reduceEqDiff, ↓reduceIte, reduceCtorEq, List.nil_append, Bool.true_and, Bool.not_true, Bool.not_false, true_and, finW_r, resL, resOne, ↓br_tt, ↓br_ft, br_t, getT_nil, fits_s, gOp_fld4, gOp_get4]
      rw [htop a1, decide_eq_false (show ¬ op.node ≤ 2 by omega), a1, a3]
      refine ⟨fun a4 => ?_, fun a4 => by rw [a4]; rfl⟩
      refine call_fnv hname rfl rfl rfl fun _ => ?_
      simp (maxSteps := 2000000) only [retS, vc_ret, thenQ_n, thenQ_r, blockQ_r, kKeep_eq, segs_nil, segs_n, ops_nil, ops_cons, vcOp, ev, look, put_mk, keep_mk, keepL, Value.oneCell', cond_true, Nat.reduceEqDiff, ↓reduceIte, Bool.and_true, Bool.true_and, Bool.not_false, true_and, and_true, finW_r, resL, resOne, ↓br_tt]
      rw [a4]; rfl
    · rw [a3, Bool.and_false]; rfl
    · rw [htop a1, decide_eq_true (show op.node ≤ 2 by omega), Bool.not_true, Bool.and_false]; rfl
    · rw [a1]; rfl
  · rw [beq_eq_false_iff_ne] at k1 k2
    rw [beq_iff_eq] at k3
    have e : mayA T op = (T.has op.node && pairB op.key op.value) := by rw [mayA, if_neg k1, if_neg k2, if_pos k3]
    rw [e]
    have hpr : pairB op.key op.value = (!decide (op.key = ⟨#[]⟩) && decide (op.key.size ≤ 255) && decide (op.value.size ≤ 255)) := rfl
    refine ⟨fun a1 => ⟨fun a2 => ⟨fun a3 => ?_, fun a3 => ?_⟩, fun a2 => ?_⟩, fun a1 => by rw [a1]; rfl⟩
    · rw [a1, hpr, a2, decide_eq_true (show op.key.size ≤ 255 by omega)]
      simp
      omega
    · rw [a1, hpr, decide_eq_false (show ¬ op.key.size ≤ 255 by omega)]
      simp
    · rw [hpr, a2]; simp
  · rw [beq_eq_false_iff_ne] at k1 k2 k3
    rw [mayA, if_neg k1, if_neg k2, if_neg k3]
end Go.Proofs.YtnoeabmpdjpfaaaGreatDoor.Vc

/- The document's tree: an operation done. -/
set_option linter.unusedVariables false
set_option linter.unusedSimpArgs false
set_option maxRecDepth 100000
namespace Go.Proofs.YtnoeabmpdjpfaaaGreatDoor.Vc
open Go Go.Proofs

theorem uni_lc {a b c : PH} (h : dis a b) : uni a (uni b c) = uni b (uni a c) := by rw [← uni_assoc, uni_comm h, uni_assoc]
theorem one_upd' (r : Nat) (a b : Obj) : (one r a).upd r b = one r b := by
  funext j
  by_cases h : j = r
  · subst h; simp [PH.upd, one]
  · simp [PH.upd, one, h]
def opX (l : List TN) (op : Op) : TN := (getL l op.node).getD ⟨op.node, 0, ⟨#[]⟩, []⟩
def opN (l : List TN) (op : Op) : TN := if op.kind = 3 then { opX l op with attrs := setL (opX l op).attrs op.key op.value } else { opX l op with parent := op.parent, name := op.name }
def doL (l : List TN) (op : Op) : List TN := putL l (opN l op)

theorem rDo_spec (w : World) (m : PH) (b : Nat) (l : List TN) (ls : List (List TN)) (h : RC m b l ls) (hL : LOk l) (T : PT) (hv : viewL l = T.view) (hg : VGood T.view) (op : Op) (hb : op.name.size ≤ 140737488355328) (hl : l.length ≤ 549755813888) (hls : ls.length ≤ 1099511627776) (ha : ∀ t ∈ l, t.attrs.length ≤ 549755813888) :
    Spec Tryz.prog f_ref12_Tree_Do [ptr b, (gOp op).val] m w fun rs m' => (mayA T op = false → rs = [.s (.bool false)] ∧ RC m' b l ls) ∧ (mayA T op = true → rs = [.s (.bool true)] ∧ RC m' b (doL l op) (ls ++ [l])) := by
  refine spec_of k_ref12_Tree_Do [.g (.s (ptr b)), .g (gOp op)] (by simp) (by simp [AV.ok, GV.ok, Value.oneCell', ptr, gOp_ok]) ?_
  simp (maxSteps := 2000000) only [c_ref12_Tree_Do, vc_seq, vc_rg, thenQ_n, kKeep_eq, segs_nil, segs_n, ops_nil, ops_cons, vcOp, ev, look, updL, put_mk, keep_mk, keepL, Value.oneCell', cond_true, Nat.reduceEqDiff, ↓reduceIte, reduceCtorEq, Nat.zero_add, Bool.true_and, true_and, initF, initP, getT_nil, gOp_fits, ptr]
  refine call_ism _ [.s (.bool (mayA T op))] rfl rfl (fun w' vs hvv _ _ hm => ?_) ?_
  · obtain ⟨vs, rfl, _, hvv⟩ := argsV_g hvv
    obtain ⟨vs, rfl, _, hvv⟩ := argsV_g hvv
    obtain rfl := argsV_nil hvv
    obtain ⟨m1, A, rfl, hd, hR⟩ := h
    exact rMay_spec w' A m1 (fun b o q => hm b o (sub_uni_l _ _ b o q)) b l ls hR hL T hv hg op (by omega) hb
  simp (maxSteps := 2000000) only [retS, vc_skip, vc_ret, vc_seq, vc_rg, vc_rga, vc_ite, thenQ_n, thenQ_r, kKeep_eq, finQ_r, segs_nil, segs_n, ops_nil, ops_cons, ot_op, ot_or, vcOp, ev, look, put_mk, keep_mk, keepL, unV, Value.oneCell', cond_true, Nat.reduceEqDiff, ↓reduceIte, reduceCtorEq, Nat.zero_add, Nat.add_zero, br_t]
  cases hmay : mayA T op with
  | false =>
    simp (maxSteps := 2000000) only [Bool.and_true, Bool.not_false, and_true, true_imp_iff, false_imp_iff, Bool.true_eq_false, Bool.false_eq_true]
    exact fin_m m rfl (fun _ _ h => h) ⟨rfl, h⟩
  | true =>
    simp (maxSteps := 2000000) only [Bool.true_and, Bool.not_true, true_and, true_imp_iff, false_imp_iff, Bool.true_eq_false, Bool.false_eq_true]
    have tail4 : ∀ m2 : PH, RC m2 b l (ls ++ [l]) → ∀ σ : SS, Ge σ ⟨[(0, .g (.s (.pointer (some ⟨b, 0, none⟩)))), (3, .ref 3 [])], [(3, .box (gOp op))], [], m2⟩ →
        vc ⟨Tryz.prog, 64, w, m⟩ c_ref12_Tree_Do_R4 (finQ ⟨Tryz.prog, 64, w, m⟩ [.tmp 4] fun rs m' => rs = [.s (.bool true)] ∧ RC m' b (doL l op) (ls ++ [l])) σ := by
      intro m2 hR2 σ hσ
      obtain ⟨m1, A, rfl, hd, hR⟩ := hR2
      have hxn : (opX l op).node = op.node := by
        unfold opX
        cases hgl : getL l op.node with
        | none => rfl
        | some x => exact ((getL_mem hL.sorted).1 hgl).2
      have tail12 : ∀ (A2 : PH) (t1 : TreeNode), dis m1 A2 → RM A2 m1 b l (ls ++ [l]) → t1.node = (opN l op).node ∧ t1.parent = (opN l op).parent ∧ t1.name = (opN l op).name ∧ SlR A2 t1.attrs 2 ((opN l op).attrs.map gAttr) → ∀ σ : SS, Ge σ ⟨[(0, .g (.s (.pointer (some ⟨b, 0, none⟩)))), (5, .ref 5 [])], [(5, .box (gTreeNode t1))], [], uni m1 A2⟩ →
          vc ⟨Tryz.prog, 64, w, m⟩ c_ref12_Tree_Do_R12 (finQ ⟨Tryz.prog, 64, w, m⟩ [.tmp 4] fun rs m' => rs = [.s (.bool true)] ∧ RC m' b (doL l op) (ls ++ [l])) σ := by
        intro A2 t1 hd2 hRM ht1 σ hσ
        unfold c_ref12_Tree_Do_R12
        rw [vc_seq]
        refine vc_gh_of_ge hσ ?_
        simp (maxSteps := 2000000) only [vc_rg, segs_n, ops_cons, vcOp, ev, look, put_mk, Nat.reduceEqDiff, ↓reduceIte, reduceCtorEq, Bool.true_and, true_and, getT_nil, gTreeNode_fits]
        refine call_with m1 A2 (dOk_spec rfl) rfl rfl hd2 (Q := fun rs m' => rs = [] ∧ RM A2 m' b (putL l (opN l op)) (ls ++ [l])) (fun w' vs hvv _ _ => ?_) fun rs m4 _ hq hd4 => ?_
        · obtain ⟨vs, rfl, _, hvv⟩ := argsV_g hvv
          obtain ⟨vs, rfl, _, hvv⟩ := argsV_g hvv
          obtain rfl := argsV_nil hvv
          exact rput_spec w' A2 m1 b l (ls ++ [l]) hRM t1 (opN l op) ht1 (by omega)
        obtain ⟨rfl, h4⟩ := hq
        simp (maxSteps := 2000000) only [retS, vc_ret, vc_seq, vc_rg, thenQ_n, kKeep_eq, finQ_r, segs_nil, segs_n, ops_nil, ops_cons, vcOp, ev, look, put_mk, keep_mk, keepL, Value.oneCell', cond_true, ↓reduceIte]
        exact fin_m _ rfl (fun _ _ h => h) ⟨rfl, m4, A2, rfl, hd4, h4⟩
      have tail8 : ∀ t0 : TreeNode, t0.node = (opX l op).node ∧ t0.parent = (opX l op).parent ∧ t0.name = (opX l op).name ∧ SlR A t0.attrs 2 ((opX l op).attrs.map gAttr) → ∀ σ : SS, Ge σ ⟨[(0, .g (.s (.pointer (some ⟨b, 0, none⟩)))), (3, .ref 3 []), (5, .ref 5 [])], [(3, .box (gOp op)), (5, .box (gTreeNode t0))], [], uni m1 A⟩ →
          vc ⟨Tryz.prog, 64, w, m⟩ c_ref12_Tree_Do_R8 (finQ ⟨Tryz.prog, 64, w, m⟩ [.tmp 4] fun rs m' => rs = [.s (.bool true)] ∧ RC m' b (doL l op) (ls ++ [l])) σ := by
        intro t0 ht0 σ hσ
        unfold c_ref12_Tree_Do_R8
        rw [vc_seq, vc_seq]
        refine vc_gh_of_ge hσ ?_
        simp (maxSteps := 2000000) only [vc_seq, vc_rg, vc_ite, thenQ_n, kKeep_eq, segs_nil, segs_n, ops_nil, ops_cons, vcOp, ev, look, updL, put_mk, put_mk0, keep_mk, keepL, binV, binC, GV.getT, GV.sz, GV.same, Value.oneCell', cond_true, Nat.reduceEqDiff, ↓reduceIte, reduceCtorEq, List.nil_append, Bool.and_true, Bool.true_and, Bool.not_false, true_and, and_true, br_t, same_int, getT_nil, fits_s, gOp_fld1, gOp_get1, gOp_fld3, gOp_get3, gOp_fld4, gOp_get4, gOp_fld5, gOp_get5, gOp_fld6, gOp_get6, gTreeNode_fld1, gTreeNode_get1, gTreeNode_set1, gTreeNode_fld2, gTreeNode_get2, gTreeNode_set2, gTreeNode_fld3, gTreeNode_get3]
        refine ⟨fun k3 => ?_, fun k3 => ?_⟩
        · rw [beq_iff_eq] at k3
          have hal : (opX l op).attrs.length ≤ 549755813888 := by
            unfold opX
            cases hgl : getL l op.node with
            | none => simp
            | some x => exact ha x ((getL_mem hL.sorted).1 hgl).1
          refine call_ownm rfl rfl (Q := fun rs m' => ∃ v', rs = [.s v'] ∧ SlO m' v' 55 2 ((setL (opX l op).attrs op.key op.value).map gAttr)) (fun w' vs hvv _ _ hm => ?_) fun rs ms _ hq hds => ?_
          · obtain ⟨vs, rfl, _, hvv⟩ := argsV_g hvv
            obtain ⟨vs, rfl, _, hvv⟩ := argsV_g hvv
            obtain ⟨vs, rfl, _, hvv⟩ := argsV_g hvv
            obtain rfl := argsV_nil hvv
            exact set_spec w' t0.attrs (opX l op).attrs op.key op.value A (fun b o q => hm b o (sub_uni_r hd b o q)) ht0.2.2.2 (by omega)
          obtain ⟨v', rfl, hs'⟩ := hq
          simp (maxSteps := 2000000) only [retS, thenQ_n, kKeep_eq, segs_nil, ops_nil, ops_cons, vcOp, ev, look, updL, put_mk, put_mk0, keep_mk, keepL, GV.getT, GV.sz, GV.same, Nat.reduceEqDiff, ↓reduceIte, reduceCtorEq, List.nil_append, Bool.and_true, Bool.true_and, true_and, and_true, getT_nil, gTreeNode_fld3, gTreeNode_get3, gTreeNode_set3]
          obtain ⟨hds1, hds2⟩ := dis_of_uni_r hds
          refine tail12 (uni ms A) { t0 with attrs := v' } (dis_uni_r (dis_comm hds1) hd) (hR.up (sub_uni_r hds2)) ?_ _ (ge_of (by simp [frIn, look]) (by simp [pvIn, look]) rfl rfl (by show uni m1 (uni ms A) = uni ms (uni m1 A); rw [uni_lc hds1]))
          unfold opN
          rw [if_pos k3]
          exact ⟨ht0.1, ht0.2.1, ht0.2.2.1, hs'.toR.up (sub_uni_l _ _)⟩
        · rw [beq_eq_false_iff_ne] at k3
          refine tail12 A { t0 with parent := op.parent, name := op.name } hd hR ?_ _ (ge_of (by simp [frIn, look]) (by simp [pvIn, look]) rfl rfl rfl)
          unfold opN
          rw [if_neg k3]
          exact ⟨ht0.1, rfl, rfl, ht0.2.2.2⟩
      unfold c_ref12_Tree_Do_R4
      rw [vc_seq]
      refine vc_gh_of_ge hσ ?_
      simp (maxSteps := 2000000) only [vc_seq, vc_rg, thenQ_n, kKeep_eq, segs_nil, segs_n, ops_nil, ops_cons, vcOp, ev, evL, gvL, look, updL, put_mk, put_mk0, keep_mk, keepL, GV.getT, Nat.reduceEqDiff, ↓reduceIte, reduceCtorEq, List.nil_append, Bool.and_true, Bool.true_and, Bool.not_false, true_and, and_true, List.map_cons, List.map_nil, Option.map_some, GV.bldT, GV.bldC, same_int, getT_nil, setT_nil, fits_s, gOp_fld2, gOp_get2, gTreeNode_sz, gTreeNode_same, gTreeNode_get0, gTreeNode_set0, gTreeNode_zero]
      refine ⟨rfl, ?_⟩
      refine call_ism _ [.s (.int .i64 (findL l op.node)), .s (.bool (isL l op.node))] rfl rfl (fun w' vs hvv _ _ hm => ?_) ?_
      · obtain ⟨vs, rfl, _, hvv⟩ := argsV_g hvv
        obtain ⟨vs, rfl, _, hvv⟩ := argsV_g hvv
        obtain rfl := argsV_nil hvv
        exact find_spec w' A m1 (fun b o q => hm b o (sub_uni_l _ _ b o q)) b l _ hR op.node (by omega)
      simp (maxSteps := 2000000) only [retS, List.getElem?_cons_zero, List.getElem?_cons_succ, vc_skip, vc_seq, vc_rg, vc_ite, thenQ_n, kKeep_eq, segs_nil, segs_n, ops_nil, ops_cons, vcOp, ev, look, put_mk, keep_mk, keepL, Nat.reduceEqDiff, ↓reduceIte, reduceCtorEq, Nat.add_zero, br_t]
      obtain ⟨b2, o2, c, ts, hlts, h0, hts, _, hs0, hsi⟩ := hR.look
      have hk1 : ∀ {C : Ctx}, KN C.u0 [uni m1 A] m1 := fun {C} j o q => .inr ⟨uni m1 A, by simp, sub_uni_l _ _ j o q⟩
      refine ⟨fun his => ?_, fun hno => ?_⟩
      · rw [isL_get] at his
        obtain ⟨x, hx⟩ := Option.isSome_iff_exists.1 his
        obtain ⟨hlt, hgd⟩ := getL_at hx
        have hxe : opX l op = x := by unfold opX; rw [hx]; rfl
        refine ld_of _ (hs0 hk1) rfl ?_
        simp (maxSteps := 2000000) only [ops_cons, vcOp, ev, look, put_mk, Nat.reduceEqDiff, ↓reduceIte, reduceCtorEq, Int.toNat_natCast]
        refine ⟨⟨by omega, by omega⟩, ld_of _ (hsi hk1 _ hlt) (gTreeNode_fits _) ?_⟩
        simp (maxSteps := 2000000) only [thenQ_n, kKeep_eq, segs_nil, ops_nil, ops_cons, vcOp, ev, look, updL, put_mk, put_mk0, keep_mk, keepL, Nat.reduceEqDiff, ↓reduceIte, reduceCtorEq, Bool.and_true, Bool.true_and, true_and, and_true, getT_nil, setT_nil, gTreeNode_sz, gTreeNode_same]
        refine tail8 (ts.getD (findL l op.node) zTreeNode) ?_ _ (ge_of (by simp [frIn, look]) (by simp [pvIn, look]) rfl rfl rfl)
        have := hts.at (findL l op.node) (by omega)
        rw [hgd] at this
        rw [hxe]; exact this
      · rw [isL_get] at hno
        have hx : getL l op.node = none := Option.isNone_iff_eq_none.1 (by rw [← Option.not_isSome, hno]; rfl)
        refine tail8 ⟨op.node, 0, ⟨#[]⟩, .slice none 0 0⟩ ?_ _ (ge_of (by simp [frIn, look]) (by simp [pvIn, look]; rfl) rfl rfl rfl)
        unfold opX
        rw [hx]
        exact ⟨rfl, rfl, rfl, SlR.nil _ _⟩
    obtain ⟨m1, A, rfl, hd, hR⟩ := h
    obtain ⟨nv, wv, e, mn, mw, mo, ts, vs, rfl, p⟩ := hR
    have hlts := p.told.len
    have hvls := p.olds.len
    obtain ⟨d1, d2, d3, hrows, htold, hne, hwas, holds⟩ := p
    generalize hc : one b (.cells #[nv, wv] e (0, 0)) = oc at *
    obtain ⟨d1n, d1r⟩ := dis_of_uni_r d1
    obtain ⟨d1w, d1o⟩ := dis_of_uni_r d1r
    obtain ⟨d2w, d2o⟩ := dis_of_uni_r d2
    obtain ⟨dAc, dAr⟩ := dis_of_uni_r (dis_comm hd)
    obtain ⟨dAn, dAr⟩ := dis_of_uni_r dAr
    obtain ⟨dAw, dAo⟩ := dis_of_uni_r dAr
    have hoc : oc b = some (.cells #[nv, wv] e (0, 0)) := by rw [← hc]; exact one_self _ _
    have sc0 : PH.sub oc (uni (uni oc (uni mn (uni mw mo))) A) := PH.sub_trans (sub_uni_l _ _) (sub_uni_l _ _)
    have nv1 : nv.oneCell' = true := by rcases hrows.2 with ⟨rfl, _⟩ | ⟨ad, c, rfl, _⟩ <;> rfl
    have wv1 : wv.oneCell' = true := by rcases hwas.2 with ⟨rfl, _⟩ | ⟨ad, c, rfl, _⟩ <;> rfl
    have seen : ∀ {C : Ctx} {m' : PH}, PH.sub oc m' → Seen C [] m' b 0 (.s nv) ∧ Seen C [] m' b 1 (.s wv) := fun {C m'} hs =>
      ⟨seen_cell (u := oc) (fun j o h => .inr ⟨m', by simp, hs j o h⟩) hoc rfl nv1, seen_cell (u := oc) (fun j o h => .inr ⟨m', by simp, hs j o h⟩) hoc rfl wv1⟩
    have hclone : ∀ w' : World, (uni (uni oc (uni mn (uni mw mo))) A).le w' → Spec Tryz.prog f_ref12_clone [nv] PH.no w' fun rs m' => ∃ v mc ma ts', rs = [.s v] ∧ m' = uni mc ma ∧ dis mc ma ∧ SlO mc v 32 4 (ts'.map gTreeNode) ∧ TsOk ma ts' l := fun w' hm => by
      have s1 : PH.sub mn w'.ph := fun b o q => hm b o (sub_uni_l _ _ _ _ (sub_uni_r d1 _ _ (sub_uni_l _ _ b o q)))
      have s2 : PH.sub A w'.ph := fun b o q => hm b o (sub_uni_r hd b o q)
      exact clone_spec w' nv ts l w'.ph (fun _ _ h => h) (hrows.toR.up s1) (htold.up s2) (by omega) fun t ht => by have := ha t ht; omega
    -- the memory, the list of what was taken out of it
    have out : ∀ (mc ma : PH), dis (uni mc ma) (uni (uni oc (uni mn (uni mw mo))) A) → uni (uni mc ma) (uni (uni oc (uni mn (uni mw mo))) A) = uni mw (uni (uni mc ma) (uni (uni oc (uni mn mo)) A)) ∧ dis mw (uni (uni mc ma) (uni (uni oc (uni mn mo)) A)) := by
      intro mc ma hX
      obtain ⟨hX1, hXA⟩ := dis_of_uni_r hX
      obtain ⟨hXc, hX2⟩ := dis_of_uni_r hX1
      obtain ⟨hXn, hX3⟩ := dis_of_uni_r hX2
      obtain ⟨hXw, hXo⟩ := dis_of_uni_r hX3
      refine ⟨?_, dis_uni_r (dis_comm hXw) (dis_uni_r (dis_uni_r (dis_comm d1w) (dis_uni_r (dis_comm d2w) d3)) (dis_comm dAw))⟩
      rw [uni_lc d2w, uni_lc d1w, uni_assoc mw, uni_lc hXw]
    have close : ∀ (mc ma u' : PH) (v v' : Value) (ts' : List TreeNode), dis (uni mc ma) (uni (uni oc (uni mn (uni mw mo))) A) → dis mc ma → SlO mc v 32 4 (ts'.map gTreeNode) → TsOk ma ts' l → SlO u' v' 28 1 (vs.map GV.s ++ [.s v]) → dis u' (uni (uni mc ma) (uni (uni oc (uni mn mo)) A)) →
        (uni u' (uni (uni mc ma) (uni (uni oc (uni mn mo)) A))) b = some (.cells #[nv, wv] e (0, 0)) ∧ RC ((uni u' (uni (uni mc ma) (uni (uni oc (uni mn mo)) A))).upd b (.cells #[nv, v'] e (0, 0))) b l (ls ++ [l]) := by
      intro mc ma u' v v' ts' hX hcm hs1 hs2 hs3 hU
      obtain ⟨hX1, hXA⟩ := dis_of_uni_r hX
      obtain ⟨hXc, hX2⟩ := dis_of_uni_r hX1
      obtain ⟨hXn, hX3⟩ := dis_of_uni_r hX2
      obtain ⟨hXw, hXo⟩ := dis_of_uni_r hX3
      obtain ⟨cc, ca⟩ := dis_of_uni_r (dis_comm hXc)
      obtain ⟨nc, na⟩ := dis_of_uni_r (dis_comm hXn)
      obtain ⟨oc', oa⟩ := dis_of_uni_r (dis_comm hXo)
      obtain ⟨Ac, Aa⟩ := dis_of_uni_r (dis_comm hXA)
      obtain ⟨hU1, hU2⟩ := dis_of_uni_r hU
      obtain ⟨hUc, hUa⟩ := dis_of_uni_r hU1
      obtain ⟨hU3, hUA⟩ := dis_of_uni_r hU2
      obtain ⟨hUo, hU4⟩ := dis_of_uni_r hU3
      obtain ⟨hUn, hUm⟩ := dis_of_uni_r hU4
      have hub : u' b = none := (hUo b).resolve_right (by rw [hoc]; simp)
      have hxb : (uni mc ma) b = none := (hXc b).resolve_right (by rw [hoc]; simp)
      refine ⟨by simp only [uni] at hxb ⊢; rw [hub, Option.none_or, hxb, Option.none_or, hoc]; rfl, ?_⟩
      rw [uni_upd hub, uni_upd hxb, uni_upd_l, uni_upd_l]
      have hoc2 : oc.upd b (.cells #[nv, v'] e (0, 0)) = one b (.cells #[nv, v'] e (0, 0)) := by rw [← hc, one_upd']
      rw [hoc2]
      have dn : ∀ {x : PH}, dis oc x → dis (one b (.cells #[nv, v'] e (0, 0))) x := fun hx => by rw [← hc] at hx; exact dis_one_of hx
      have v1 : v.oneCell' = true := by rcases hs1.2 with ⟨rfl, _⟩ | ⟨ad, c, rfl, _⟩ <;> rfl
      have hsubA : PH.sub A (uni ma A) := sub_uni_r (dis_comm Aa)
      refine ⟨uni (one b (.cells #[nv, v'] e (0, 0))) (uni mn (uni u' (uni mo mc))), uni ma A, ?_, ?_, nv, v', e, mn, u', uni mo mc, ts, vs ++ [v], rfl, ⟨?_, ?_, ?_, hrows, htold.up hsubA, hne, ?_, ?_⟩⟩
      · simp only [uni_assoc]
        rw [uni_lc (dis_comm (dn ca)), uni_lc (dis_comm (dn cc)), uni_lc (dis_comm (dn (dis_comm hUo))), uni_lc (dis_comm na), uni_lc (dis_comm nc), uni_lc hUn, uni_lc (dis_comm oa), uni_lc (dis_comm oc')]
      · refine dis_uni_l (dis_uni_r (dn ca) (dn (dis_comm dAc))) (dis_uni_l (dis_uni_r na (dis_comm dAn)) (dis_uni_l (dis_uni_r hUa hUA) (dis_uni_l (dis_uni_r oa (dis_comm dAo)) (dis_uni_r hcm (dis_comm Ac)))))
      · exact dis_uni_r (dn d1n) (dis_uni_r (dn (dis_comm hUo)) (dis_uni_r (dn d1o) (dn cc)))
      · exact dis_uni_r (dis_comm hUn) (dis_uni_r d2o nc)
      · exact dis_uni_r hUm hUc
      · rw [List.map_append]; exact hs3
      · exact (holds.up hsubA).snoc v1 hs1 (hs2.up (sub_uni_l _ _)) hne (dis_comm oc')
    repeat' (first
      | (refine ld_of _ (seen sc0).1 rfl ?_; simp (maxSteps := 2000000) only [segs_nil, segs_n, ops_nil, ops_cons, ot_op, ot_or, vcOp, ev, look, put_mk, Nat.reduceEqDiff, ↓reduceIte])
      | (refine ld_of _ (seen sc0).2 rfl ?_; simp (maxSteps := 2000000) only [segs_nil, segs_n, ops_nil, ops_cons, ot_op, vcOp, ev, look, put_mk, Nat.reduceEqDiff, ↓reduceIte])
      | (refine ld_of _ (seen (PH.sub_trans sc0 (sub_uni_r hdX))).2 rfl ?_; simp (maxSteps := 2000000) only [segs_nil, segs_n, ops_nil, ops_cons, ot_op, vcOp, ev, evL, gvL, look, updL, put_mk, rowE, GV.sz, Nat.reduceEqDiff, ↓reduceIte, Nat.zero_add, Bool.and_true, Bool.true_and, true_and, and_true, Option.map_some, szAll, List.length_cons, List.length_nil, List.drop_zero, List.take_succ_cons, List.take_zero])
      | (refine call_ownm rfl rfl (Q := fun rs m' => ∃ v mc ma ts', rs = [.s v] ∧ m' = uni mc ma ∧ dis mc ma ∧ SlO mc v 32 4 (ts'.map gTreeNode) ∧ TsOk ma ts' l) (fun w' vs hv hw _ hm => by obtain ⟨vs, rfl, _, hv⟩ := argsV_g hv; obtain rfl := argsV_nil hv; exact hclone w' hm) fun rs mX _ hq hdX => ?_; obtain ⟨v, mc, ma, ts', rfl, rfl, hcm, hs1, hs2⟩ := hq; simp (maxSteps := 2000000) only [retS, segs_nil, segs_n, ops_nil, ops_cons, ot_op, ot_or, vcOp, ev, evL, gvL, look, updL, put_mk, rowE, GV.sz, Nat.reduceEqDiff, ↓reduceIte, Nat.zero_add, Bool.and_true, Bool.true_and, true_and, and_true, Option.map_some, szAll, List.length_cons, List.length_nil, List.drop_zero, List.take_succ_cons, List.take_zero])
      | refine And.intro ?_ ?_)
    all_goals
      obtain ⟨o1, o2⟩ := out mc ma hdX
      refine app_of rfl rfl mw (uni (uni mc ma) (uni (uni oc (uni mn mo)) A)) (vs.map GV.s) hwas o1 o2 (by simp only [List.length_map, List.length_cons, List.length_nil]; omega) fun v' u' hv' hs' hd' => ?_
      simp (maxSteps := 2000000) only [segs_nil, segs_n, ops_nil, ops_cons, ot_op, vcOp, ev, look, put_mk, Nat.reduceEqDiff, ↓reduceIte, Nat.zero_add]
      obtain ⟨c1, c2⟩ := close mc ma u' v v' ts' hdX hcm hs1 hs2 hs' hd'
      refine st_of rfl #[nv, wv] e ⟨c1, by simp⟩ ?_
      simp (maxSteps := 2000000) only [thenQ_n, kKeep_eq, segs_nil, ops_nil, ot_done, look, put_mk0, keep_mk, keepL, Nat.reduceEqDiff, ↓reduceIte, reduceCtorEq]
      exact tail4 _ c2 _ (ge_of (by simp [frIn, look]) (by simp [pvIn, look]) rfl rfl rfl)
end Go.Proofs.YtnoeabmpdjpfaaaGreatDoor.Vc

/- The document's lists: what was done is seen; a tree of rows: plain. -/
set_option linter.unusedVariables false
set_option linter.unusedSimpArgs false
namespace Go.Proofs.YtnoeabmpdjpfaaaGreatDoor.Vc
open Go

theorem doL_view {l : List TN} {T : PT} {op : Op} {k : Nat} (hL : LOk l) (hv : viewL l = T.view) (hok : T.ok k) (hg : VGood T.view) (hm : mayA T op = true) : LOk (doL l op) ∧ viewL (doL l op) = (T.does op).view := by
  by_cases k1 : op.kind = 1
  · obtain ⟨hn, _⟩ := may_make hm k1
    have hx : getL l op.node = none := by
      have : viewL l op.node = none := by rw [hv]; exact PT.view_none.2 hn
      unfold viewL at this
      cases hg : getL l op.node with
      | none => rfl
      | some x => rw [hg] at this; cases this
    have hN : opN l op = ⟨op.node, op.parent, op.name, []⟩ := by unfold opN opX; rw [if_neg (by omega), hx]; rfl
    obtain ⟨h1, h2⟩ := hL.put (a := opN l op) (by rw [hN]; rfl)
    refine ⟨h1, ?_⟩
    show viewL (putL l (opN l op)) = _
    rw [h2, hN, does_view1 hm k1, hv]
    rfl
  · obtain ⟨x, hx⟩ := may_there hm k1
    have hvn : viewL l op.node = some x.view := by rw [hv]; exact PT.view_get hx
    obtain ⟨t, ht⟩ : ∃ t, getL l op.node = some t := by
      unfold viewL at hvn
      cases hg : getL l op.node with
      | none => rw [hg] at hvn; cases hvn
      | some t => exact ⟨t, rfl⟩
    obtain ⟨hm1, hm2⟩ := (getL_mem hL.sorted).1 ht
    have hta := hL.attrs t hm1
    have hX : opX l op = t := by unfold opX; rw [ht]; rfl
    rw [viewL, ht] at hvn
    simp only [Option.map_some, Option.some.injEq, PN.view, AN.mk.injEq] at hvn
    obtain ⟨q1, q2, q3⟩ := hvn
    by_cases k2 : op.kind = 2
    · have hN : opN l op = { t with parent := op.parent, name := op.name } := by unfold opN; rw [if_neg (by omega), hX]
      obtain ⟨h1, h2⟩ := hL.put (a := opN l op) (by rw [hN]; exact hta)
      refine ⟨h1, ?_⟩
      show viewL (putL l (opN l op)) = _
      rw [h2, hN, does_view2 hx k2, hv]
      simp only
      rw [hm2, q3]
    · have k3 : op.kind = 3 := by
        rw [mayA, if_neg k1, if_neg k2] at hm
        split at hm
        · assumption
        · cases hm
      have hp : pairB op.key op.value = true := by
        rw [mayA, if_neg k1, if_neg k2, if_pos k3] at hm
        simp only [Bool.and_eq_true] at hm; exact hm.2
      have hkey : (⟨#[]⟩ : ByteArray).data.toList < op.key.data.toList := by
        have : op.key ≠ ⟨#[]⟩ := fun e => by rw [e] at hp; simp [pairB] at hp
        cases hk : op.key.data.toList with
        | nil => exact absurd (ByteArray.ext (Array.toList_inj.1 hk)) this
        | cons a l => simp
      have hN : opN l op = { t with attrs := setL t.attrs op.key op.value } := by unfold opN; rw [if_pos k3, hX]
      have hok' := setL_ok hp _ _ hta hkey
      obtain ⟨h1, h2⟩ := hL.put (a := opN l op) (by rw [hN]; exact hok')
      refine ⟨h1, ?_⟩
      show viewL (putL l (opN l op)) = _
      rw [h2, hN, does_view3 hx (hok.attrs _ _ hx).1 k1 k2, hv]
      simp only
      rw [hm2, q1, q2]
      congr 3
      funext j
      rw [setL, setL_look _ _ hta j, q3]

/-! ### A tree of rows -/
def okR : Int → List TN → Bool
  | _, [] => true
  | last, r :: l => rowA last r && attrsA ⟨#[]⟩ r.attrs && okR r.node l
theorem rowsA_okR : ∀ {l : List TN} {T : PT} {last : Int}, (∃ T', rowsA T last l = some T') ↔ okR last l = true
  | [], T, last => ⟨fun _ => rfl, fun _ => ⟨T, rfl⟩⟩
  | r :: l, T, last => by
    rw [rowsA, okR]
    cases hb : rowA last r && attrsA ⟨#[]⟩ r.attrs with
    | false => simp
    | true => rw [if_pos rfl, Bool.true_and]; exact rowsA_okR
theorem fromA_iff {l : List TN} : fromA l ↔ okR 0 l = true ∧ ∀ n, viewOf l n ≠ none → ∃ k, LeadsN (viewOf l) k n := by
  unfold fromA
  constructor
  · rintro ⟨T, h1, h2⟩
    have hv := (rowsA_rowed h1).view
    refine ⟨rowsA_okR.1 ⟨T, h1⟩, ?_⟩
    rw [← hv]; exact h2
  · rintro ⟨h1, h2⟩
    obtain ⟨T, hT⟩ := rowsA_okR (T := T0).2 h1
    refine ⟨T, hT, ?_⟩
    have hv := (rowsA_rowed hT).view
    unfold PT.led
    rw [hv]; exact h2
theorem okR_each : ∀ {l : List TN} {last : Int}, okR last l = true → l.Pairwise (fun a b => a.node < b.node) ∧ ∀ r ∈ l, last < r.node ∧ attrsA ⟨#[]⟩ r.attrs = true
  | [], _, _ => ⟨List.Pairwise.nil, by simp⟩
  | r :: l, last, h => by
    rw [okR, Bool.and_eq_true, Bool.and_eq_true] at h
    obtain ⟨⟨h1, h2⟩, h3⟩ := h
    have hl := rowA_last h1
    obtain ⟨i1, i2⟩ := okR_each h3
    refine ⟨List.pairwise_cons.2 ⟨fun q hq => (i2 q hq).1, i1⟩, fun q hq => ?_⟩
    rcases List.mem_cons.1 hq with rfl | hq
    · exact ⟨hl, h2⟩
    · obtain ⟨j1, j2⟩ := i2 q hq
      exact ⟨by omega, j2⟩
def rowV (r : TN) : AN := ⟨r.parent, r.name, lookA r.attrs⟩
def rowsL (l : List TN) : List TN := l.foldl putL T0L
def viewF (v : Int → Option AN) : List TN → Int → Option AN
  | [] => v
  | r :: l => viewF (updV v r.node (some (rowV r))) l
theorem viewF_none : ∀ {l : List TN} {v : Int → Option AN} {n : Int}, (∀ r ∈ l, r.node ≠ n) → viewF v l n = v n
  | [], _, _, _ => rfl
  | r :: l, v, n, h => by
    rw [viewF, viewF_none fun q hq => h q (by simp [hq]), updV_ne (fun e => h r (by simp) e.symm)]
theorem viewF_of : ∀ {l : List TN} {v : Int → Option AN} {r : TN}, l.Pairwise (fun a b => a.node < b.node) → r ∈ l → viewF v l r.node = some (rowV r)
  | [], _, _, _, h => by simp at h
  | q :: l, v, r, h, hr => by
    rw [List.pairwise_cons] at h
    rw [viewF]
    rcases List.mem_cons.1 hr with rfl | hr
    · rw [viewF_none fun x hx => by have := h.1 x hx; omega, updV_eq]
    · exact viewF_of h.2 hr
theorem T0L_ok : LOk T0L := ⟨by simp [T0L], fun t ht => by simp [T0L] at ht; rcases ht with rfl | rfl <;> rfl⟩
theorem T0L_view : viewL T0L = T0.view := by
  funext n
  unfold viewL T0L
  rw [getL_cons, getL_cons]
  have hnil : getL [] n = none := by simp [getL, isL]
  rw [hnil]
  simp only
  by_cases h1 : n = 1
  · subst h1; rfl
  · by_cases h2 : n = 2
    · subst h2; rfl
    · have h0 : T0.view n = none := by
        rw [PT.view_none]
        show getA _ _ = none
        simp [T0, getA, Ne.symm h1, Ne.symm h2]
      rw [h0]
      by_cases q1 : (1 : Int) < n
      · rw [if_pos q1]
        by_cases q2 : (2 : Int) < n
        · rw [if_pos q2]; rfl
        · rw [if_neg q2, if_neg (Ne.symm h2)]; rfl
      · rw [if_neg q1, if_neg (Ne.symm h1)]; rfl
theorem putL_len (l : List TN) (a : TN) : (putL l a).length ≤ l.length + 1 := by
  unfold putL
  split
  · simp
  · have := findL_le l a.node
    simp only [List.length_append, List.length_take, List.length_cons, List.length_drop]; omega
theorem putL_ne (l : List TN) (a : TN) : putL l a ≠ [] := by
  unfold putL
  split
  · rename_i h
    rw [isL] at h
    intro e
    have := congrArg List.length e
    simp only [List.length_set, List.length_nil] at this
    rw [List.length_eq_zero_iff.1 this] at h
    simp at h
  · simp
theorem foldl_put : ∀ {l b : List TN}, LOk b → (∀ r ∈ l, attrsA ⟨#[]⟩ r.attrs = true) → LOk (l.foldl putL b) ∧ viewL (l.foldl putL b) = viewF (viewL b) l
  | [], b, h, _ => ⟨h, rfl⟩
  | r :: l, b, h, ha => by
    obtain ⟨h1, h2⟩ := h.put (a := r) (ha r (by simp))
    obtain ⟨i1, i2⟩ := foldl_put (l := l) h1 fun q hq => ha q (by simp [hq])
    exact ⟨i1, by rw [List.foldl_cons, i2, h2]; rfl⟩
theorem rowsL_view {l : List TN} (h : okR 0 l = true) : LOk (rowsL l) ∧ viewL (rowsL l) = viewOf l := by
  obtain ⟨h1, h2⟩ := okR_each h
  obtain ⟨i1, i2⟩ := foldl_put (l := l) T0L_ok fun r hr => (h2 r hr).2
  refine ⟨i1, ?_⟩
  show viewL (l.foldl putL T0L) = _
  rw [i2, T0L_view]
  funext n
  by_cases hn : ∃ r ∈ l, r.node = n
  · obtain ⟨r, hr, rfl⟩ := hn
    rw [viewF_of h1 hr, viewOf, rowGet_of h1 hr]
    simp only [Option.map_some, Option.some.injEq, rowV, rowN, PN.view, AN.mk.injEq, true_and]
    funext j
    rw [laidA_get (h2 r hr).2]
  · have hn' : ∀ r ∈ l, r.node ≠ n := fun r hr e => hn ⟨r, hr, e⟩
    rw [viewF_none hn', viewOf, rowGet_none hn']
    rfl
theorem LeadsN.fewL {l : List TN} (hL : LOk l) {k : Nat} {n : Int} (h : LeadsN (viewL l) k n) : k ≤ l.length := by
  obtain ⟨ns, e1, e2, e3, _⟩ := h.way
  have := nodup_len (b := l.map (·.node)) e2 fun m hm => by
    have := e3 m hm
    unfold viewL at this
    cases hg : getL l m with
    | none => rw [hg] at this; simp at this
    | some t =>
      obtain ⟨q1, q2⟩ := (getL_mem hL.sorted).1 hg
      exact List.mem_map.2 ⟨t, q1, q2⟩
  simpa [e1] using this
end Go.Proofs.YtnoeabmpdjpfaaaGreatDoor.Vc

/- The document's tree of rows: the walk. -/
set_option linter.unusedVariables false
set_option linter.unusedSimpArgs false
set_option maxRecDepth 100000
namespace Go.Proofs.YtnoeabmpdjpfaaaGreatDoor.Vc
open Go Go.Proofs

end Go.Proofs.YtnoeabmpdjpfaaaGreatDoor.Vc

/- The document's lists beside a tree: plain. -/
set_option linter.unusedVariables false
set_option linter.unusedSimpArgs false
namespace Go.Proofs.YtnoeabmpdjpfaaaGreatDoor.Vc
open Go

theorem plain_rows {l : List TN} {T : PT} {k : Nat} (h : LOk l) (hv : ∀ n, viewL l n = T.view n ∨ (viewL l n = none ∧ topB n = true ∧ T.view n = some PN.bare.view)) (hok : T.ok k) (hg : VGood T.view) : plainL l = nodesTold T := by
  have hs2 := toldL_sorted (T := T) (nodesK_sorted hok.nod)
  have hs1 : (plainL l).Pairwise (fun a b => a.node < b.node) := h.sorted.sublist List.filter_sublist
  have nd : ∀ {l : List TN}, l.Pairwise (fun a b => a.node < b.node) → l.Nodup := fun hs => hs.imp fun {a b} hab e => by rw [e] at hab; omega
  have hat : ∀ n x, T.get n = some x → attrsA ⟨#[]⟩ (attrsOf x) = true := fun n x hx => attrsOf_ok (hok.attrs n x hx).1 fun k w h => hg.pairs n _ k w (PT.view_get hx) h
  have key : ∀ n t x, getL l n = some t → T.get n = some x → t = toldOf n x := fun n t x h1 h2 => by
    have hvn : viewL l n = T.view n := by
      rcases hv n with q | ⟨q, _⟩
      · exact q
      · rw [viewL, h1] at q; cases q
    rw [viewL, h1, PT.view_get h2] at hvn
    simp only [Option.map_some, Option.some.injEq, PN.view, AN.mk.injEq] at hvn
    obtain ⟨q1, q2, q3⟩ := hvn
    obtain ⟨m1, m2⟩ := (getL_mem h.sorted).1 h1
    obtain ⟨tn, tp, tm, ta⟩ := t
    simp only at q1 q2 q3 m2
    have : ta = attrsOf x := attrs_uniq (h.attrs _ m1) (hat n x h2) (by rw [q3]; funext j; exact (attrsOf_look x j).symm)
    rw [toldOf, ← q1, ← q2, ← m2, this]
  have hsh : ∀ t : TN, 0 < t.node → (decide (t.node > 2) || decide (0 < t.attrs.length)) = t.shown := fun t ht => by
    rw [TN.shown]
    congr 1
    simp only [topB]
    by_cases h1 : t.node = 1
    · simp [h1]
    · by_cases h2 : t.node = 2
      · simp [h2]
      · rw [decide_eq_true (by omega)]; simp [h1, h2]
  have hp : (plainL l).Perm (nodesTold T) := (List.perm_ext_iff_of_nodup (nd hs1) (nd hs2)).2 fun t => by
    constructor
    · intro ht
      obtain ⟨m1, m2⟩ := List.mem_filter.1 ht
      have hg1 := (getL_mem h.sorted).2 ⟨m1, rfl⟩
      have hvn : viewL l t.node = T.view t.node := by
        rcases hv t.node with q | ⟨q, _⟩
        · exact q
        · rw [viewL, hg1] at q; cases q
      rw [viewL, hg1] at hvn
      obtain ⟨x, hx, _⟩ := get_of_view hvn.symm
      have e := key _ _ _ hg1 hx
      rw [e]
      refine (mem_told hx).2 ?_
      rw [← e, ← hsh t (hg.pos _ _ (PT.view_get hx))]
      exact m2
    · intro ht
      obtain ⟨n, _, x, hx, rfl⟩ := toldL_node ht
      have hshow := (mem_told hx).1 ht
      rcases hv n with hvn | ⟨_, htop, hb⟩
      · rw [PT.view_get hx] at hvn
        cases hg1 : getL l n with
        | none => rw [viewL, hg1] at hvn; cases hvn
        | some t =>
          have e := key _ _ _ hg1 hx
          obtain ⟨m1, _⟩ := (getL_mem h.sorted).1 hg1
          rw [e] at m1
          refine List.mem_filter.2 ⟨m1, ?_⟩
          rw [hsh _ (hg.pos _ _ (PT.view_get hx))]
          exact hshow
      · rw [PT.view_get hx] at hb
        simp only [Option.some.injEq, PN.view, PN.bare, AN.mk.injEq] at hb
        have : attrsOf x = [] := attrs_uniq (hat n x hx) rfl (by funext j; rw [attrsOf_look, hb.2.2]; rfl)
        rw [TN.shown, show (toldOf n x).node = n from rfl, htop, show (toldOf n x).attrs = attrsOf x from rfl, this] at hshow
        cases hshow
  refine List.Perm.eq_of_pairwise (le := fun a b : TN => a.node < b.node) (fun a b _ _ h1 h2 => ?_) hs1 hs2 hp
  omega
theorem plain_from {l : List TN} {T : PT} {k : Nat} (hR : okR 0 l = true) (hv : T.view = viewOf l) (hok : T.ok k) (hg : VGood T.view) : plainL l = nodesTold T := by
  obtain ⟨h1, h2⟩ := okR_each hR
  have hL : LOk l := ⟨h1, fun t ht => (h2 t ht).2⟩
  refine plain_rows hL (fun n => ?_) hok hg
  rw [hv]
  by_cases hn : ∃ r ∈ l, r.node = n
  · obtain ⟨r, hr, rfl⟩ := hn
    left
    rw [viewL, (getL_mem h1).2 ⟨hr, rfl⟩, viewOf, rowGet_of h1 hr]
    simp only [Option.map_some, Option.some.injEq, rowN, PN.view, AN.mk.injEq, true_and]
    funext j
    rw [laidA_get (h2 r hr).2]
  · have hn' : ∀ r ∈ l, r.node ≠ n := fun r hr e => hn ⟨r, hr, e⟩
    have hgn : getL l n = none := by
      cases hg : getL l n with
      | none => rfl
      | some t => obtain ⟨q1, q2⟩ := (getL_mem h1).1 hg; exact absurd q2 (hn' t q1)
    rw [viewL, hgn, viewOf, rowGet_none hn']
    cases h0 : T0.get n with
    | none => exact .inl rfl
    | some x =>
      right
      exact ⟨rfl, (T0_keys (PT.view_get h0)).1, by rw [T0_get h0]; rfl⟩
theorem list_bounds {l : List TN} {T : PT} {k : Nat} (h : LOk l) (hv : viewL l = T.view) (hok : T.ok k) (hg : VGood T.view) : l.length ≤ k + 2 ∧ ∀ t ∈ l, t.attrs.length ≤ k := by
  have hin : ∀ t ∈ l, ∃ x, T.get t.node = some x ∧ t.attrs = attrsOf x := fun t ht => by
    have hg1 := (getL_mem h.sorted).2 ⟨ht, rfl⟩
    have hvn : viewL l t.node = T.view t.node := congrFun hv _
    rw [viewL, hg1] at hvn
    obtain ⟨x, hx, he⟩ := get_of_view hvn.symm
    refine ⟨x, hx, attrs_uniq (h.attrs t ht) (attrsOf_ok (hok.attrs _ x hx).1 fun k w q => hg.pairs _ _ k w (PT.view_get hx) q) ?_⟩
    simp only [PN.view, AN.mk.injEq] at he
    rw [← he.2.2]
    funext j
    exact (attrsOf_look x j).symm
  refine ⟨?_, fun t ht => ?_⟩
  · have nd : (l.map (·.node)).Nodup := by
      rw [List.Nodup, List.pairwise_map]
      exact h.sorted.imp fun {a b} hab e => by omega
    have := nodup_len (b := T.nodes.map (·.1)) nd fun m hm => by
      obtain ⟨t, ht, rfl⟩ := List.mem_map.1 hm
      obtain ⟨x, hx, _⟩ := hin t ht
      exact List.mem_map.2 ⟨(t.node, x), getA_mem hx, rfl⟩
    simp only [List.length_map] at this
    have := hok.many
    omega
  · obtain ⟨x, hx, e⟩ := hin t ht
    rw [e]
    have := (hok.attrs _ x hx).2
    simpa [attrsOf, attrKeys, sortB] using this
end Go.Proofs.YtnoeabmpdjpfaaaGreatDoor.Vc

/- The code of some functions of the program, its types resolved: printed by a program of this claim. -/
set_option linter.unusedVariables false
set_option maxRecDepth 100000
namespace Go.Proofs.YtnoeabmpdjpfaaaGreatDoor.Vc
open Go Go.Proofs

abbrev f_ref12_Tree_Lookup : Nat := 45
def c_ref12_Tree_Lookup_L0 : Cd :=
 (.seq (.seq (.rg [⟨none, [(some 10, .mv (.t 8)), (some 11, .mv (.t 0)), (some 12, .nilc (.t 11)), (some 13, .fldA (.t 12) 0 0), (some 14, .ld (.t 13) 1 false), (some 15, .len (.t 14)), (some 16, .bin .lss (.t 10) (.t 15))]⟩] [0, 1, 2, 8, 16])
 (.ite (.t 16)
 .skip
 (.exit 0)))
 (.seq (.block 1 (.seq (.rg [⟨none, [(some 19, .mv (.t 0)), (some 20, .nilc (.t 19)), (some 21, .fldA (.t 20) 0 0), (some 22, .ld (.t 21) 1 false), (some 23, .mv (.t 8)), (some 24, .idxS (.t 22) (.t 23) 4), (some 25, .ld (.t 24) 4 true), (some 9, .new 32 (.c (.s (.int .i64 0)) (.c (.s (.int .i64 0)) (.c (.s (.string ⟨#[]⟩)) (.c (.s (.slice none 0 0)) .u))))), (none, .st (.t 9) (.t 25) 4)]⟩] [0, 1, 2, 8, 9])
 (.seq (.rg [⟨none, [(some 26, .fldA (.t 9) 1 1), (some 27, .ld (.t 26) 1 false), (some 28, .mv (.t 1)), (some 29, .bin .eql (.t 27) (.t 28)), (some 30, .mv (.t 29))]⟩, ⟨some (30, true), [(some 31, .fldA (.t 9) 0 0), (some 32, .ld (.t 31) 1 false), (some 33, .bin .gtr (.t 32) (.c (.int .i64 2)))]⟩, ⟨none, [(some 34, .pick (.t 30) (.t 33) (.c (.bool false))), (some 35, .mv (.t 34))]⟩, ⟨some (35, true), [(some 36, .fldA (.t 9) 2 2), (some 37, .ld (.t 36) 1 false), (some 38, .mv (.t 2)), (some 39, .bin .eql (.t 37) (.t 38))]⟩, ⟨none, [(some 40, .pick (.t 35) (.t 39) (.c (.bool false)))]⟩] [0, 1, 2, 8, 9, 40])
 (.ite (.t 40)
 (.seq (.rg [⟨none, [(some 41, .fldA (.t 9) 0 0), (some 42, .ld (.t 41) 1 false), (some 6, .mv (.t 42)), (some 7, .mv (.c (.bool true)))]⟩] [6, 7])
 .ret)
 .skip))))
 (.rg [⟨none, [(some 17, .mv (.t 8)), (some 18, .bin .add (.t 17) (.c (.int .i64 1))), (some 8, .mv (.t 18))]⟩] [0, 1, 2, 8])))
def c_ref12_Tree_Lookup : Cd :=
 (.seq (.rg [⟨none, [(some 6, .mv (.c (.int .i64 0))), (some 7, .mv (.c (.bool false)))]⟩] [0, 1, 2])
 (.seq (.seq (.rg [⟨none, [(some 8, .mv (.c (.int .i64 0)))]⟩] [0, 1, 2, 8])
 (.block 0 (.loop c_ref12_Tree_Lookup_L0)))
 (.seq (.rg [⟨none, [(some 6, .mv (.c (.int .i64 0))), (some 7, .mv (.c (.bool false)))]⟩] [6, 7])
 .ret)))
theorem k_ref12_Tree_Lookup : Ok Tryz.prog 45 c_ref12_Tree_Lookup 43 [] [.tmp 6, .tmp 7] := Ok.mk' Tryz.func45 (by kernel_rfl) (by kernel_rfl) (by kernel_rfl)

abbrev f_ref12_Tree_Node : Nat := 47
def c_ref12_Tree_Node : Cd :=
 (.seq (.rg [⟨none, [(some 4, .new 32 (.c (.s (.int .i64 0)) (.c (.s (.int .i64 0)) (.c (.s (.string ⟨#[]⟩)) (.c (.s (.slice none 0 0)) .u))))), (some 5, .mv (.c (.bool false)))]⟩] [0, 1, 4])
 (.seq (.rg [⟨none, [(some 9, .mv (.t 0)), (some 10, .mv (.t 1)), (some 11, .call 56 [(.t 9), (.t 10)]), (some 8, .mv (.t 11)), (some 12, .ext (.t 8) 0), (some 13, .ext (.t 8) 1), (some 6, .mv (.t 12)), (some 7, .mv (.t 13))]⟩] [0, 4, 6, 7])
 (.seq (.seq (.rg [⟨none, [(some 14, .mv (.t 7)), (some 15, .un .not (.t 14))]⟩] [0, 4, 6, 15])
 (.ite (.t 15)
 (.seq (.rg [⟨none, [(some 16, .bld (.c (.s (.int .i64 0)) (.c (.s (.int .i64 0)) (.c (.s (.string ⟨#[]⟩)) (.c (.s (.slice none 0 0)) .u)))) []), (none, .st (.t 4) (.t 16) 4), (some 5, .mv (.c (.bool false)))]⟩] [4, 5])
 .ret)
 .skip))
 (.seq (.rg [⟨none, [(some 17, .mv (.t 0)), (some 18, .nilc (.t 17)), (some 19, .fldA (.t 18) 0 0), (some 20, .ld (.t 19) 1 false), (some 21, .mv (.t 6)), (some 22, .mv (.t 6)), (some 23, .bin .add (.t 22) (.c (.int .i64 1))), (some 24, .sl 4 (.t 20) (some (.t 21)) (some (.t 23))), (some 25, .call 55 [(.t 24)]), (some 26, .idxS (.t 25) (.c (.int .i64 0)) 4), (some 27, .ld (.t 26) 4 true), (none, .st (.t 4) (.t 27) 4), (some 5, .mv (.c (.bool true)))]⟩] [4, 5])
 .ret))))
theorem k_ref12_Tree_Node : Ok Tryz.prog 47 c_ref12_Tree_Node 28 [] [.cell 4 4 true, .tmp 5] := Ok.mk' Tryz.func47 (by kernel_rfl) (by kernel_rfl) (by kernel_rfl)

abbrev f_ref12_Tree_Children : Nat := 46
def c_ref12_Tree_Children_L0 : Cd :=
 (.seq (.seq (.rgq [⟨none, [(some 35, .mv (.t 8)), (some 36, .mv (.t 5)), (some 37, .len (.t 36)), (some 38, .bin .lss (.t 35) (.t 37)), (some 39, .mv (.t 38))]⟩, ⟨some (39, true), [(some 40, .mv (.t 5)), (some 41, .mv (.t 8)), (some 42, .idxS (.t 40) (.t 41) 2), (some 43, .fldA (.t 42) 0 0), (some 44, .ld (.t 43) 1 false), (some 45, .fldA (.t 7) 2 2), (some 46, .ld (.t 45) 1 false)]⟩] [⟨some (39, true), [(some 47, .bin .leq (.t 44) (.t 46))]⟩, ⟨none, [(some 48, .pick (.t 39) (.t 47) (.c (.bool false)))]⟩] [0, 1, 5, 6, 7, 8, 48])
 (.ite (.t 48)
 .skip
 (.exit 2)))
 (.block 3 (.rg [⟨none, [(some 49, .mv (.t 8)), (some 50, .bin .add (.t 49) (.c (.int .i64 1))), (some 8, .mv (.t 50))]⟩] [0, 1, 5, 6, 7, 8])))
def c_ref12_Tree_Children_L1 : Cd :=
 (.seq (.seq (.rg [⟨none, [(some 10, .mv (.t 6)), (some 11, .mv (.t 0)), (some 12, .nilc (.t 11)), (some 13, .fldA (.t 12) 0 0), (some 14, .ld (.t 13) 1 false), (some 15, .len (.t 14)), (some 16, .bin .lss (.t 10) (.t 15))]⟩] [0, 1, 5, 6, 16])
 (.ite (.t 16)
 .skip
 (.exit 0)))
 (.seq (.block 1 (.seq (.rg [⟨none, [(some 19, .mv (.t 0)), (some 20, .nilc (.t 19)), (some 21, .fldA (.t 20) 0 0), (some 22, .ld (.t 21) 1 false), (some 23, .mv (.t 6)), (some 24, .idxS (.t 22) (.t 23) 4), (some 25, .ld (.t 24) 4 true), (some 7, .new 32 (.c (.s (.int .i64 0)) (.c (.s (.int .i64 0)) (.c (.s (.string ⟨#[]⟩)) (.c (.s (.slice none 0 0)) .u))))), (none, .st (.t 7) (.t 25) 4)]⟩] [0, 1, 5, 6, 7])
 (.seq (.seq (.rg [⟨none, [(some 26, .fldA (.t 7) 1 1), (some 27, .ld (.t 26) 1 false), (some 28, .mv (.t 1)), (some 29, .bin .neq (.t 27) (.t 28)), (some 30, .mv (.t 29))]⟩, ⟨some (30, false), [(some 31, .fldA (.t 7) 0 0), (some 32, .ld (.t 31) 1 false), (some 33, .bin .leq (.t 32) (.c (.int .i64 2)))]⟩, ⟨none, [(some 34, .pick (.t 30) (.c (.bool true)) (.t 33))]⟩] [0, 1, 5, 6, 7, 34])
 (.ite (.t 34)
 (.exit 1)
 .skip))
 (.seq (.rg [⟨none, [(none, .gh), (some 8, .mv (.c (.int .i64 0)))]⟩] [0, 1, 5, 6, 7, 8])
 (.seq (.block 2 (.loop c_ref12_Tree_Children_L0))
 (.seq (.rg [⟨none, [(some 51, .mv (.t 5)), (some 52, .mv (.t 8)), (some 53, .sl 2 (.t 51) none (some (.t 52))), (some 54, .app 51 2 24 (.c (.s (.string ⟨#[]⟩)) (.c (.s (.int .i64 0)) .u)) (.c (.slice none 0 0)) (.t 53)), (some 9, .mv (.t 54))]⟩] [0, 1, 5, 6, 7, 8, 9])
 (.seq (.rg [⟨none, [(some 55, .mv (.t 9)), (some 56, .fldA (.t 7) 2 2), (some 57, .ld (.t 56) 1 false), (some 58, .fldA (.t 7) 0 0), (some 59, .ld (.t 58) 1 false), (some 60, .bld (.c (.s (.string ⟨#[]⟩)) (.c (.s (.int .i64 0)) .u)) [(0, (.t 57)), (1, (.t 59))]), (some 61, .bldS 51 2 (.c (.s (.string ⟨#[]⟩)) (.c (.s (.int .i64 0)) .u)) [(.t 60)]), (some 62, .app 51 2 24 (.c (.s (.string ⟨#[]⟩)) (.c (.s (.int .i64 0)) .u)) (.t 55) (.t 61)), (some 9, .mv (.t 62))]⟩] [0, 1, 5, 6, 8, 9])
 (.rg [⟨none, [(some 63, .mv (.t 9)), (some 64, .mv (.t 5)), (some 65, .mv (.t 8)), (some 66, .sl 2 (.t 64) (some (.t 65)) none), (some 67, .app 51 2 24 (.c (.s (.string ⟨#[]⟩)) (.c (.s (.int .i64 0)) .u)) (.t 63) (.t 66)), (none, .gh), (some 5, .mv (.t 67))]⟩] [0, 1, 5, 6]))))))))
 (.rg [⟨none, [(some 17, .mv (.t 6)), (some 18, .bin .add (.t 17) (.c (.int .i64 1))), (some 6, .mv (.t 18))]⟩] [0, 1, 5, 6])))
def c_ref12_Tree_Children : Cd :=
 (.seq (.rg [⟨none, [(some 4, .mv (.c (.slice none 0 0)))]⟩] [0, 1])
 (.seq (.rg [⟨none, [(some 5, .mv (.c (.slice none 0 0)))]⟩] [0, 1, 5])
 (.seq (.seq (.rg [⟨none, [(some 6, .mv (.c (.int .i64 0)))]⟩] [0, 1, 5, 6])
 (.block 0 (.loop c_ref12_Tree_Children_L1)))
 (.seq (.rg [⟨none, [(some 68, .mv (.t 5)), (some 4, .mv (.t 68))]⟩] [4])
 .ret))))
theorem k_ref12_Tree_Children : Ok Tryz.prog 46 c_ref12_Tree_Children 69 [(8, 12)] [.tmp 4] := Ok.mk' Tryz.func46 (by kernel_rfl) (by kernel_rfl) (by kernel_rfl)

abbrev f_ref20_Resolve : Nat := 19
def c_ref20_Resolve_L0 : Cd :=
 (.seq (.seq (.rg [⟨none, [(some 20, .mv (.t 9)), (some 21, .mv (.t 6)), (some 22, .len (.t 21)), (some 23, .bin .lss (.t 20) (.t 22))]⟩] [0, 6, 8, 9, 23])
 (.ite (.t 23)
 .skip
 (.exit 0)))
 (.seq (.block 1 (.seq (.rg [⟨none, [(some 27, .mv (.t 0)), (some 28, .mv (.t 8)), (some 29, .mv (.t 6)), (some 30, .mv (.t 9)), (some 31, .idxS (.t 29) (.t 30) 1), (some 32, .ld (.t 31) 1 false), (some 33, .call 45 [(.t 27), (.t 28), (.t 32)]), (some 26, .mv (.t 33)), (some 34, .ext (.t 26) 0), (some 35, .ext (.t 26) 1), (some 10, .mv (.t 34)), (some 11, .mv (.t 35))]⟩] [0, 6, 9, 10, 11])
 (.seq (.seq (.rg [⟨none, [(some 36, .mv (.t 11)), (some 37, .un .not (.t 36))]⟩] [0, 6, 9, 10, 37])
 (.ite (.t 37)
 (.seq (.rg [⟨none, [(some 4, .mv (.c (.int .i64 0))), (some 5, .mv (.c (.int .i64 4)))]⟩] [4, 5])
 .ret)
 .skip))
 (.rg [⟨none, [(some 38, .mv (.t 10)), (some 8, .mv (.t 38))]⟩] [0, 6, 8, 9]))))
 (.rg [⟨none, [(some 24, .mv (.t 9)), (some 25, .bin .add (.t 24) (.c (.int .i64 1))), (some 9, .mv (.t 25))]⟩] [0, 6, 8, 9])))
def c_ref20_Resolve : Cd :=
 (.seq (.rg [⟨none, [(some 4, .mv (.c (.int .i64 0))), (some 5, .mv (.c (.int .i64 0)))]⟩] [0, 1])
 (.seq (.rg [⟨none, [(some 13, .mv (.t 1)), (some 14, .call 44 [(.t 13)]), (some 12, .mv (.t 14)), (some 15, .ext (.t 12) 0), (some 16, .ext (.t 12) 1), (some 6, .mv (.t 15)), (some 7, .mv (.t 16))]⟩] [0, 6, 7])
 (.seq (.seq (.rg [⟨none, [(some 17, .mv (.t 7)), (some 18, .bin .neq (.t 17) (.c (.int .i64 0)))]⟩] [0, 6, 7, 18])
 (.ite (.t 18)
 (.seq (.rg [⟨none, [(some 19, .mv (.t 7)), (some 4, .mv (.c (.int .i64 0))), (some 5, .mv (.t 19))]⟩] [4, 5])
 .ret)
 .skip))
 (.seq (.rg [⟨none, [(none, .gh), (some 8, .mv (.c (.int .i64 1)))]⟩] [0, 6, 8])
 (.seq (.seq (.rg [⟨none, [(some 9, .mv (.c (.int .i64 0)))]⟩] [0, 6, 8, 9])
 (.block 0 (.loop c_ref20_Resolve_L0)))
 (.seq (.rg [⟨none, [(some 39, .mv (.t 8)), (some 4, .mv (.t 39)), (some 5, .mv (.c (.int .i64 0)))]⟩] [4, 5])
 .ret))))))
theorem k_ref20_Resolve : Ok Tryz.prog 19 c_ref20_Resolve 40 [] [.tmp 4, .tmp 5] := Ok.mk' Tryz.func19 (by kernel_rfl) (by kernel_rfl) (by kernel_rfl)

abbrev f_ref20_List : Nat := 20
def c_ref20_List : Cd :=
 (.seq (.rg [⟨none, [(some 4, .mv (.c (.slice none 0 0))), (some 5, .mv (.c (.int .i64 0)))]⟩] [0, 1])
 (.seq (.rg [⟨none, [(some 9, .mv (.t 0)), (some 10, .mv (.t 1)), (some 11, .call 19 [(.t 9), (.t 10)]), (some 8, .mv (.t 11)), (some 12, .ext (.t 8) 0), (some 13, .ext (.t 8) 1), (some 6, .mv (.t 12)), (some 7, .mv (.t 13))]⟩] [0, 6, 7])
 (.seq (.seq (.rg [⟨none, [(some 14, .mv (.t 7)), (some 15, .bin .neq (.t 14) (.c (.int .i64 0)))]⟩] [0, 6, 7, 15])
 (.ite (.t 15)
 (.seq (.rg [⟨none, [(some 16, .mv (.t 7)), (some 4, .mv (.c (.slice none 0 0))), (some 5, .mv (.t 16))]⟩] [4, 5])
 .ret)
 .skip))
 (.seq (.rg [⟨none, [(some 17, .mv (.t 0)), (some 18, .mv (.t 6)), (some 19, .call 46 [(.t 17), (.t 18)]), (some 4, .mv (.t 19)), (some 5, .mv (.c (.int .i64 0)))]⟩] [4, 5])
 .ret))))
theorem k_ref20_List : Ok Tryz.prog 20 c_ref20_List 20 [] [.tmp 4, .tmp 5] := Ok.mk' Tryz.func20 (by kernel_rfl) (by kernel_rfl) (by kernel_rfl)

abbrev f_ref20_Attrs : Nat := 22
def c_ref20_Attrs : Cd :=
 (.seq (.rg [⟨none, [(some 4, .mv (.c (.slice none 0 0))), (some 5, .mv (.c (.int .i64 0)))]⟩] [0, 1])
 (.seq (.rg [⟨none, [(some 11, .mv (.t 0)), (some 12, .mv (.t 1)), (some 13, .call 19 [(.t 11), (.t 12)]), (some 10, .mv (.t 13)), (some 14, .ext (.t 10) 0), (some 15, .ext (.t 10) 1), (some 6, .mv (.t 14)), (some 7, .mv (.t 15))]⟩] [0, 6, 7])
 (.seq (.seq (.rg [⟨none, [(some 16, .mv (.t 7)), (some 17, .bin .neq (.t 16) (.c (.int .i64 0)))]⟩] [0, 6, 7, 17])
 (.ite (.t 17)
 (.seq (.rg [⟨none, [(some 18, .mv (.t 7)), (some 4, .mv (.c (.slice none 0 0))), (some 5, .mv (.t 18))]⟩] [4, 5])
 .ret)
 .skip))
 (.seq (.rg [⟨none, [(some 20, .mv (.t 0)), (some 21, .mv (.t 6)), (some 22, .call 47 [(.t 20), (.t 21)]), (some 19, .mv (.t 22)), (some 23, .ext (.t 19) 0), (some 24, .ext (.t 19) 1), (some 8, .new 32 (.c (.s (.int .i64 0)) (.c (.s (.int .i64 0)) (.c (.s (.string ⟨#[]⟩)) (.c (.s (.slice none 0 0)) .u))))), (none, .st (.t 8) (.t 23) 4), (some 9, .mv (.t 24))]⟩] [8])
 (.seq (.rg [⟨none, [(some 25, .fldA (.t 8) 3 3), (some 26, .ld (.t 25) 1 false), (some 4, .mv (.t 26)), (some 5, .mv (.c (.int .i64 0)))]⟩] [4, 5])
 .ret)))))
theorem k_ref20_Attrs : Ok Tryz.prog 22 c_ref20_Attrs 27 [] [.tmp 4, .tmp 5] := Ok.mk' Tryz.func22 (by kernel_rfl) (by kernel_rfl) (by kernel_rfl)

abbrev f_ref20_Of : Nat := 24
def c_ref20_Of_L0 : Cd :=
 (.seq (.seq (.rg [⟨none, [(some 22, .mv (.t 1)), (some 23, .bin .neq (.t 22) (.c (.int .i64 1)))]⟩] [0, 1, 8, 23])
 (.ite (.t 23)
 .skip
 (.exit 0)))
 (.block 1 (.seq (.rg [⟨none, [(some 25, .mv (.t 0)), (some 26, .mv (.t 1)), (some 27, .call 47 [(.t 25), (.t 26)]), (some 24, .mv (.t 27)), (some 28, .ext (.t 24) 0), (some 29, .ext (.t 24) 1), (some 9, .new 32 (.c (.s (.int .i64 0)) (.c (.s (.int .i64 0)) (.c (.s (.string ⟨#[]⟩)) (.c (.s (.slice none 0 0)) .u))))), (none, .st (.t 9) (.t 28) 4), (some 10, .mv (.t 29))]⟩] [0, 8, 9])
 (.seq (.rg [⟨none, [(some 30, .fldA (.t 9) 2 2), (some 31, .ld (.t 30) 1 false), (some 32, .bldS 9 1 (.s (.string ⟨#[]⟩)) [(.t 31)]), (some 33, .mv (.t 8)), (none, .gh), (some 34, .app 9 1 16 (.s (.string ⟨#[]⟩)) (.t 32) (.t 33)), (none, .gh), (some 8, .mv (.t 34))]⟩] [0, 8, 9])
 (.rg [⟨none, [(some 35, .fldA (.t 9) 1 1), (some 36, .ld (.t 35) 1 false), (some 1, .mv (.t 36))]⟩] [0, 1, 8])))))
def c_ref20_Of : Cd :=
 (.seq (.rg [⟨none, [(some 4, .mv (.c (.string ⟨#[]⟩))), (some 5, .mv (.c (.int .i64 0)))]⟩] [0, 1])
 (.seq (.seq (.rg [⟨none, [(some 12, .mv (.t 0)), (some 13, .mv (.t 1)), (some 14, .call 47 [(.t 12), (.t 13)]), (some 11, .mv (.t 14)), (some 15, .ext (.t 11) 0), (some 16, .ext (.t 11) 1), (some 6, .new 32 (.c (.s (.int .i64 0)) (.c (.s (.int .i64 0)) (.c (.s (.string ⟨#[]⟩)) (.c (.s (.slice none 0 0)) .u))))), (none, .st (.t 6) (.t 15) 4), (some 7, .mv (.t 16))]⟩] [0, 1, 7])
 (.seq (.rg [⟨none, [(some 17, .mv (.t 7)), (some 18, .un .not (.t 17))]⟩] [0, 1, 18])
 (.ite (.t 18)
 (.seq (.rg [⟨none, [(some 4, .mv (.c (.string ⟨#[]⟩))), (some 5, .mv (.c (.int .i64 4)))]⟩] [4, 5])
 .ret)
 .skip)))
 (.seq (.seq (.rg [⟨none, [(some 19, .mv (.t 0)), (some 20, .mv (.t 1)), (some 21, .call 48 [(.t 19), (.t 20), (.c (.int .i64 2))])]⟩] [0, 1, 21])
 (.ite (.t 21)
 (.seq (.rg [⟨none, [(some 4, .mv (.c (.string ⟨#[]⟩))), (some 5, .mv (.c (.int .i64 201)))]⟩] [4, 5])
 .ret)
 .skip))
 (.seq (.rg [⟨none, [(some 8, .mv (.c (.slice none 0 0)))]⟩] [0, 1, 8])
 (.seq (.block 0 (.loop c_ref20_Of_L0))
 (.seq (.rg [⟨none, [(some 37, .mv (.t 8)), (some 38, .call 49 [(.t 37)]), (some 39, .ext (.t 38) 0), (some 40, .ext (.t 38) 1), (some 4, .mv (.t 39)), (some 5, .mv (.t 40))]⟩] [4, 5])
 .ret))))))
theorem k_ref20_Of : Ok Tryz.prog 24 c_ref20_Of 41 [] [.tmp 4, .tmp 5] := Ok.mk' Tryz.func24 (by kernel_rfl) (by kernel_rfl) (by kernel_rfl)

abbrev f_law20_children : Nat := 21
def c_law20_children_L0 : Cd :=
 (.seq (.rg [⟨none, [(some 14, .bin .lss (.t 13) (.t 12))]⟩] [0, 1, 12, 13, 14])
 (.seq (.ite (.t 14)
 .skip
 (.exit 0))
 (.seq (.block 1 (.seq (.rg [⟨none, [(some 15, .mv (.t 13)), (some 5, .mv (.t 15))]⟩] [0, 1, 5, 12, 13])
 (.seq (.rgq [⟨none, [(some 16, .mv (.t 0)), (some 17, .mv (.t 5)), (some 18, .idxS (.t 16) (.t 17) 2), (some 19, .ld (.t 18) 2 true), (some 20, .mv (.t 1)), (some 21, .mv (.t 5)), (some 22, .idxS (.t 20) (.t 21) 2), (some 23, .ld (.t 22) 2 true)]⟩] [⟨none, [(some 24, .eqA true 51 (.t 19) (.t 23))]⟩] [0, 1, 12, 13, 24])
 (.ite (.t 24)
 (.seq (.rg [⟨none, [(some 4, .mv (.c (.bool false)))]⟩] [4])
 .ret)
 .skip))))
 (.rg [⟨none, [(some 25, .bin .add (.t 13) (.c (.int .i64 1))), (some 13, .mv (.t 25))]⟩] [0, 1, 12, 13]))))
def c_law20_children : Cd :=
 (.seq (.rg [⟨none, [(some 4, .mv (.c (.bool false)))]⟩] [0, 1])
 (.seq (.seq (.rg [⟨none, [(some 6, .mv (.t 0)), (some 7, .len (.t 6)), (some 8, .mv (.t 1)), (some 9, .len (.t 8)), (some 10, .bin .neq (.t 7) (.t 9))]⟩] [0, 1, 10])
 (.ite (.t 10)
 (.seq (.rg [⟨none, [(some 4, .mv (.c (.bool false)))]⟩] [4])
 .ret)
 .skip))
 (.seq (.seq (.rg [⟨none, [(some 11, .mv (.t 0)), (some 12, .len (.t 11)), (some 13, .mv (.c (.int .i64 0)))]⟩] [0, 1, 12, 13])
 (.block 0 (.loop c_law20_children_L0)))
 (.seq (.rg [⟨none, [(some 4, .mv (.c (.bool true)))]⟩] [4])
 .ret))))
theorem k_law20_children : Ok Tryz.prog 21 c_law20_children 26 [(6, 8)] [.tmp 4] := Ok.mk' Tryz.func21 (by kernel_rfl) (by kernel_rfl) (by kernel_rfl)

abbrev f_law20_attrs : Nat := 23
def c_law20_attrs_L0 : Cd :=
 (.seq (.rg [⟨none, [(some 14, .bin .lss (.t 13) (.t 12))]⟩] [0, 1, 12, 13, 14])
 (.seq (.ite (.t 14)
 .skip
 (.exit 0))
 (.seq (.block 1 (.seq (.rg [⟨none, [(some 15, .mv (.t 13)), (some 5, .mv (.t 15))]⟩] [0, 1, 5, 12, 13])
 (.seq (.rgq [⟨none, [(some 16, .mv (.t 0)), (some 17, .mv (.t 5)), (some 18, .idxS (.t 16) (.t 17) 2), (some 19, .ld (.t 18) 2 true), (some 20, .mv (.t 1)), (some 21, .mv (.t 5)), (some 22, .idxS (.t 20) (.t 21) 2), (some 23, .ld (.t 22) 2 true)]⟩] [⟨none, [(some 24, .eqA true 55 (.t 19) (.t 23))]⟩] [0, 1, 12, 13, 24])
 (.ite (.t 24)
 (.seq (.rg [⟨none, [(some 4, .mv (.c (.bool false)))]⟩] [4])
 .ret)
 .skip))))
 (.rg [⟨none, [(some 25, .bin .add (.t 13) (.c (.int .i64 1))), (some 13, .mv (.t 25))]⟩] [0, 1, 12, 13]))))
def c_law20_attrs : Cd :=
 (.seq (.rg [⟨none, [(some 4, .mv (.c (.bool false)))]⟩] [0, 1])
 (.seq (.seq (.rg [⟨none, [(some 6, .mv (.t 0)), (some 7, .len (.t 6)), (some 8, .mv (.t 1)), (some 9, .len (.t 8)), (some 10, .bin .neq (.t 7) (.t 9))]⟩] [0, 1, 10])
 (.ite (.t 10)
 (.seq (.rg [⟨none, [(some 4, .mv (.c (.bool false)))]⟩] [4])
 .ret)
 .skip))
 (.seq (.seq (.rg [⟨none, [(some 11, .mv (.t 0)), (some 12, .len (.t 11)), (some 13, .mv (.c (.int .i64 0)))]⟩] [0, 1, 12, 13])
 (.block 0 (.loop c_law20_attrs_L0)))
 (.seq (.rg [⟨none, [(some 4, .mv (.c (.bool true)))]⟩] [4])
 .ret))))
theorem k_law20_attrs : Ok Tryz.prog 23 c_law20_attrs 26 [(6, 8)] [.tmp 4] := Ok.mk' Tryz.func23 (by kernel_rfl) (by kernel_rfl) (by kernel_rfl)

abbrev f_law20_PathLeads : Nat := 5
def c_law20_PathLeads : Cd :=
 (.seq (.rg [⟨none, [(some 6, .mv (.c (.bool false)))]⟩] [0, 1, 2])
 (.seq (.rg [⟨none, [(some 20, .mv (.t 0)), (some 21, .call 6 [(.t 20)]), (some 19, .mv (.t 21)), (some 22, .ext (.t 19) 0), (some 23, .ext (.t 19) 1), (some 7, .mv (.t 22)), (some 8, .mv (.t 23))]⟩] [1, 2, 7, 8])
 (.seq (.seq (.rg [⟨none, [(some 24, .call 7 []), (some 25, .un .not (.t 24)), (some 26, .mv (.t 25))]⟩, ⟨some (26, false), [(some 27, .mv (.t 7)), (some 28, .eqA false 23 (.t 27) (.c (.pointer none)))]⟩, ⟨none, [(some 29, .pick (.t 26) (.c (.bool true)) (.t 28))]⟩] [1, 2, 7, 8, 29])
 (.ite (.t 29)
 (.seq (.rg [⟨none, [(some 6, .mv (.c (.bool false)))]⟩] [6])
 .ret)
 .skip))
 (.seq (.rg [⟨none, [(some 31, .mv (.t 7)), (some 32, .mv (.t 1)), (some 33, .call 11 [(.t 31), (.t 32)]), (some 30, .mv (.t 33)), (some 34, .ext (.t 30) 0), (some 35, .ext (.t 30) 1), (some 9, .mv (.t 34)), (some 10, .mv (.t 35))]⟩] [1, 2, 7, 8, 9, 10])
 (.seq (.rg [⟨none, [(some 37, .mv (.t 8)), (some 38, .mv (.t 1)), (some 39, .call 19 [(.t 37), (.t 38)]), (some 36, .mv (.t 39)), (some 40, .ext (.t 36) 0), (some 41, .ext (.t 36) 1), (some 11, .mv (.t 40)), (some 12, .mv (.t 41))]⟩] [1, 2, 7, 8, 9, 10, 11, 12])
 (.seq (.seq (.rg [⟨none, [(some 42, .mv (.t 9)), (some 43, .mv (.t 11)), (some 44, .bin .neq (.t 42) (.t 43)), (some 45, .mv (.t 44))]⟩, ⟨some (45, false), [(some 46, .mv (.t 10)), (some 47, .mv (.t 12)), (some 48, .bin .neq (.t 46) (.t 47))]⟩, ⟨none, [(some 49, .pick (.t 45) (.c (.bool true)) (.t 48))]⟩] [1, 2, 7, 8, 49])
 (.ite (.t 49)
 (.seq (.rg [⟨none, [(some 6, .mv (.c (.bool false)))]⟩] [6])
 .ret)
 .skip))
 (.seq (.rg [⟨none, [(some 51, .mv (.t 7)), (some 52, .mv (.t 1)), (some 53, .call 15 [(.t 51), (.t 52)]), (some 50, .mv (.t 53)), (some 54, .ext (.t 50) 0), (some 55, .ext (.t 50) 1), (some 13, .mv (.t 54)), (some 10, .mv (.t 55))]⟩] [1, 2, 7, 8, 10, 13])
 (.seq (.rg [⟨none, [(some 57, .mv (.t 8)), (some 58, .mv (.t 1)), (some 59, .call 20 [(.t 57), (.t 58)]), (some 56, .mv (.t 59)), (some 60, .ext (.t 56) 0), (some 61, .ext (.t 56) 1), (some 14, .mv (.t 60)), (some 12, .mv (.t 61))]⟩] [1, 2, 7, 8, 10, 12, 13, 14])
 (.seq (.seq (.rg [⟨none, [(some 62, .mv (.t 13)), (some 63, .mv (.t 14)), (some 64, .call 21 [(.t 62), (.t 63)]), (some 65, .un .not (.t 64)), (some 66, .mv (.t 65))]⟩, ⟨some (66, false), [(some 67, .mv (.t 10)), (some 68, .mv (.t 12)), (some 69, .bin .neq (.t 67) (.t 68))]⟩, ⟨none, [(some 70, .pick (.t 66) (.c (.bool true)) (.t 69))]⟩] [1, 2, 7, 8, 70])
 (.ite (.t 70)
 (.seq (.rg [⟨none, [(some 6, .mv (.c (.bool false)))]⟩] [6])
 .ret)
 .skip))
 (.seq (.rg [⟨none, [(some 72, .mv (.t 7)), (some 73, .mv (.t 1)), (some 74, .call 16 [(.t 72), (.t 73)]), (some 71, .mv (.t 74)), (some 75, .ext (.t 71) 0), (some 76, .ext (.t 71) 1), (some 15, .mv (.t 75)), (some 10, .mv (.t 76))]⟩] [1, 2, 7, 8, 10, 15])
 (.seq (.rg [⟨none, [(some 78, .mv (.t 8)), (some 79, .mv (.t 1)), (some 80, .call 22 [(.t 78), (.t 79)]), (some 77, .mv (.t 80)), (some 81, .ext (.t 77) 0), (some 82, .ext (.t 77) 1), (some 16, .mv (.t 81)), (some 12, .mv (.t 82))]⟩] [2, 7, 8, 10, 12, 15, 16])
 (.seq (.seq (.rg [⟨none, [(some 83, .mv (.t 15)), (some 84, .mv (.t 16)), (some 85, .call 23 [(.t 83), (.t 84)]), (some 86, .un .not (.t 85)), (some 87, .mv (.t 86))]⟩, ⟨some (87, false), [(some 88, .mv (.t 10)), (some 89, .mv (.t 12)), (some 90, .bin .neq (.t 88) (.t 89))]⟩, ⟨none, [(some 91, .pick (.t 87) (.c (.bool true)) (.t 90))]⟩] [2, 7, 8, 91])
 (.ite (.t 91)
 (.seq (.rg [⟨none, [(some 6, .mv (.c (.bool false)))]⟩] [6])
 .ret)
 .skip))
 (.seq (.rg [⟨none, [(some 93, .mv (.t 7)), (some 94, .mv (.t 2)), (some 95, .call 9 [(.t 93), (.t 94)]), (some 92, .mv (.t 95)), (some 96, .ext (.t 92) 0), (some 97, .ext (.t 92) 1), (some 17, .mv (.t 96)), (some 10, .mv (.t 97))]⟩] [2, 8, 10, 17])
 (.seq (.rg [⟨none, [(some 99, .mv (.t 8)), (some 100, .mv (.t 2)), (some 101, .call 24 [(.t 99), (.t 100)]), (some 98, .mv (.t 101)), (some 102, .ext (.t 98) 0), (some 103, .ext (.t 98) 1), (some 18, .mv (.t 102)), (some 12, .mv (.t 103))]⟩] [10, 12, 17, 18])
 (.seq (.rg [⟨none, [(some 104, .mv (.t 17)), (some 105, .mv (.t 18)), (some 106, .bin .eql (.t 104) (.t 105)), (some 107, .mv (.t 106))]⟩, ⟨some (107, true), [(some 108, .mv (.t 10)), (some 109, .mv (.t 12)), (some 110, .bin .eql (.t 108) (.t 109))]⟩, ⟨none, [(some 111, .pick (.t 107) (.t 110) (.c (.bool false))), (some 6, .mv (.t 111))]⟩] [6])
 .ret)))))))))))))))
theorem k_law20_PathLeads : Ok Tryz.prog 5 c_law20_PathLeads 112 [] [.tmp 6] := Ok.mk' Tryz.func5 (by kernel_rfl) (by kernel_rfl) (by kernel_rfl)

end Go.Proofs.YtnoeabmpdjpfaaaGreatDoor.Vc

/- The reference's Lookup. -/
set_option linter.unusedVariables false
set_option linter.unusedSimpArgs false
set_option maxRecDepth 100000
namespace Go.Proofs.YtnoeabmpdjpfaaaGreatDoor.Vc
open Go Go.Proofs

theorem hasV_list {l : List TN} (hL : LOk l) (hg : VGood (viewL l)) {name : ByteArray} {n c : Int} : HasV (viewL l) name n c ↔ ∃ t ∈ l, t.node = c ∧ t.node > 2 ∧ t.parent = n ∧ t.name = name := by
  constructor
  · rintro ⟨ht, a, h1, h2, h3⟩
    have hpos := hg.pos c a h1
    cases hgl : getL l c with
    | none => rw [viewL, hgl] at h1; cases h1
    | some t =>
      rw [viewL, hgl] at h1
      cases h1
      have hmem := (getL_mem hL.sorted).1 hgl
      refine ⟨t, hmem.1, hmem.2, ?_, h2, h3⟩
      rw [hmem.2]
      have h4 : c ≠ 1 ∧ c ≠ 2 := by simpa [topB] using ht
      omega
  · rintro ⟨t, hm, rfl, h1, h2, h3⟩
    have hgl := (getL_mem hL.sorted).2 ⟨hm, rfl⟩
    refine ⟨?_, ⟨t.parent, t.name, lookA t.attrs⟩, by rw [viewL, hgl]; rfl, h2, h3⟩
    simp only [topB, Bool.or_eq_false_iff, beq_eq_false_iff_ne]
    omega
theorem rLookup_spec (w : World) (A m : PH) (hm : m.le w) (b : Nat) (l : List TN) (ls : List (List TN)) (h : RM A m b l ls) (hL : LOk l) (hg : VGood (viewL l)) (n : Int) (name : ByteArray) (hl : l.length ≤ 1099511627776) :
    Spec Tryz.prog f_ref12_Tree_Lookup [ptr b, .int .i64 n, .string name] PH.no w fun rs _ => ∃ best, rs = [.s (.int .i64 best), .s (.bool (best != 0))] ∧ LookV (viewL l) name n best := by
  refine spec_val k_ref12_Tree_Lookup (Qf := fun rs => ∃ best, rs = [.s (.int .i64 best), .s (.bool (best != 0))] ∧ LookV (viewL l) name n best) [.g (.s (ptr b)), .g (.s (.int .i64 n)), .g (.s (.string name))] (by simp) (by simp [AV.ok, GV.ok, Value.oneCell', ptr]) ?_
  obtain ⟨b2, o2, c, ts, hlts, h0, hts, _, hs0, hsi⟩ := h.look
  have hk : ∀ {l : List PH}, KN (⟨Tryz.prog, 43, w, PH.no⟩ : Ctx).u0 l m := kn_u hm
  simp (maxSteps := 2000000) only [c_ref12_Tree_Lookup, vc_seq, vc_block, vc_rg, thenQ_n, kKeep_eq, segs_nil, segs_n, ops_nil, ops_cons, vcOp, ev, look, put_mk, keep_mk, keepL, Value.oneCell', cond_true, Nat.reduceEqDiff, Nat.reduceAdd, ↓reduceIte, reduceCtorEq, Nat.zero_add, initF, initP, Int.reduceAdd, ptr]
  refine vc_loop (ι := Nat) (fun i => ⟨[(0, .g (.s (.pointer (some ⟨b, 0, none⟩)))), (1, .g (.s (.int .i64 (n)))), (2, .g (.s (.string (name)))), (8, .g (.s (.int .i64 (i))))], [], [], PH.no⟩)
    (fun i => i ≤ l.length ∧ ∀ t ∈ l.take i, ¬ (t.node > 2 ∧ t.parent = n ∧ t.name = name)) (fun i => l.length - i) 0 ⟨by omega, by simp⟩ (ge_of ?_ ?_ rfl rfl rfl) ?_
  · simp [frIn, look]
  · simp [pvIn, look]
  rintro i ⟨hi, hno⟩
  generalize hQ : loopQ _ _ _ _ _ = Q
  simp (maxSteps := 2000000) only [c_ref12_Tree_Lookup_L0, vc_seq, vc_rg, segs_n, ops_cons, vcOp, ev, look, put_mk, Nat.reduceEqDiff, ↓reduceIte, reduceCtorEq, Nat.add_zero, gTreeNode_zero]
  refine ld_of _ (hs0 hk) rfl ?_
  simp (maxSteps := 2000000) only [vc_skip, vc_exit, vc_seq, vc_block, vc_rg, vc_ite, thenQ_n, thenQ_e, kKeep_eq, segs_nil, segs_n, ops_nil, ops_cons, vcOp, ev, look, put_mk, keep_mk, keepL, binV, binC, Nat.reduceEqDiff, ↓reduceIte, reduceCtorEq, Nat.add_zero, Bool.true_and, true_and, decide_eq_true_eq, decide_eq_false_iff_not, br_t]
  refine ⟨fun hlt => ?_, fun hge => ?_⟩
  · refine ld_of _ (hs0 hk) rfl ?_
    simp (maxSteps := 2000000) only [ops_cons, vcOp, ev, look, put_mk, Nat.reduceEqDiff, ↓reduceIte, reduceCtorEq, Int.toNat_natCast]
    have hil : i < l.length := by omega
    obtain ⟨g1, g2, g3, _⟩ := hts.at i (by omega)
    refine ⟨⟨by omega, by omega⟩, ld_of _ (hsi hk i hil) rfl ?_⟩
    simp (maxSteps := 2000000) only [vc_skip, vc_ret, vc_seq, vc_rg, vc_ite, thenQ_n, thenQ_r, blockQ_n, blockQ_r, kKeep_eq, segs_nil, segs_n, segs_g, ops_nil, ops_cons, vcOp, RO.isGh, skip_mk, skipL, ev, look, updL, put_mk, put_mk0, keep_mk, keepL, binV, binC, GV.getT, Value.oneCell', cond_true, cond_false, Nat.reduceEqDiff, ↓reduceIte, reduceCtorEq, List.nil_append, Bool.and_true, Bool.true_and, Bool.not_true, Bool.not_false, true_and, and_true, decide_eq_true_eq, decide_eq_false_iff_not, ↓br_tt, ↓br_ft, br_t, getT_nil, setT_nil, fits_s, gTreeNode_sz, gTreeNode_same, gTreeNode_fld0, gTreeNode_get0, gTreeNode_fld1, gTreeNode_get1, gTreeNode_fld2, gTreeNode_get2]
    generalize ts.getD i zTreeNode = t at g1 g2 g3 ⊢
    obtain ⟨r, hr⟩ : ∃ r, l.getD i zTN = r := ⟨_, rfl⟩
    rw [hr] at g1 g2 g3
    have hri : l[i] = r := by rw [← hr, List.getD_eq_getElem?_getD, List.getElem?_eq_getElem hil]; rfl
    have htk : l.take (i + 1) = l.take i ++ [r] := by rw [List.take_succ_eq_append_getElem hil, hri]
    have next : ¬ (t.node > 2 ∧ t.parent = n ∧ t.name = name) → ∀ x ∈ l.take (i + 1), ¬ (x.node > 2 ∧ x.parent = n ∧ x.name = name) := fun h x hx => by
      rw [htk] at hx
      rcases List.mem_append.1 hx with h4 | h4
      · exact hno x h4
      · simp only [List.mem_singleton] at h4
        subst h4
        rw [← g1, ← g2, ← g3]; exact h
    refine ⟨fun h1 => ⟨fun h2 => ⟨fun h3 => ?_, fun h3 => ?_⟩, fun h2 => ?_⟩, fun h1 => ?_⟩
    · have h1 : t.parent = n := by simpa using h1
      subst hQ
      simp (maxSteps := 2000000) only [thenQ_r, blockQ_r, loopQ_r, look, Nat.reduceEqDiff, ↓reduceIte, finW_r, resL, resOne]
      have hrm : r ∈ l := by rw [← hri]; exact List.getElem_mem hil
      refine ⟨t.node, by rw [show (t.node != 0) = true by simp; omega], .inr ⟨(hasV_list hL hg).2 ⟨r, hrm, g1.symm, by omega, by rw [← g2]; exact h1, by rw [← g3]; exact h3⟩, fun c hc => ?_⟩⟩
      obtain ⟨x, hx, rfl, k1, k2, k3⟩ := (hasV_list hL hg).1 hc
      obtain ⟨j, hj, rfl⟩ := List.getElem_of_mem hx
      rcases Nat.lt_trichotomy j i with hji | rfl | hji
      · exact absurd ⟨k1, k2, k3⟩ (hno _ (List.mem_take_iff_getElem.2 ⟨j, by omega, rfl⟩))
      · rw [hri, g1]; exact Int.le_refl _
      · have := List.pairwise_iff_getElem.1 hL.sorted i j hil hj hji
        rw [hri] at this
        omega
    · subst hQ; simp only [loopQ_n]; refine ⟨i + 1, ?_, ?_, ge_of ?_ ?_ rfl rfl rfl⟩
      · exact ⟨by omega, next fun h => h3 h.2.2⟩
      · omega
      · simp only [frIn, look, Nat.reduceEqDiff, ↓reduceIte, reduceCtorEq, Bool.and_true, Bool.true_and, true_and, and_true]
        rw [wrap_n (by omega)]
        try simp
      · simp [pvIn, look]
    · subst hQ; simp only [loopQ_n]; refine ⟨i + 1, ?_, ?_, ge_of ?_ ?_ rfl rfl rfl⟩
      · exact ⟨by omega, next fun h => h2 h.1⟩
      · omega
      · simp only [frIn, look, Nat.reduceEqDiff, ↓reduceIte, reduceCtorEq, Bool.and_true, Bool.true_and, true_and, and_true]
        rw [wrap_n (by omega)]
        try simp
      · simp [pvIn, look]
    · subst hQ; simp only [loopQ_n]; refine ⟨i + 1, ?_, ?_, ge_of ?_ ?_ rfl rfl rfl⟩
      · exact ⟨by omega, next fun h => by simp [h.2.1] at h1⟩
      · omega
      · simp only [frIn, look, Nat.reduceEqDiff, ↓reduceIte, reduceCtorEq, Bool.and_true, Bool.true_and, true_and, and_true]
        rw [wrap_n (by omega)]
        try simp
      · simp [pvIn, look]
  · subst hQ
    simp (maxSteps := 2000000) only [vc_ret, vc_seq, vc_rg, thenQ_n, blockQ_e, kKeep_eq, loopQ_e, segs_nil, segs_n, ops_nil, ops_cons, vcOp, ev, look, put_mk, keep_mk, keepL, Value.oneCell', cond_true, Nat.reduceEqDiff, ↓reduceIte, finW_r, resL, resOne]
    refine ⟨0, rfl, .inl ⟨rfl, fun c hc => ?_⟩⟩
    obtain ⟨t, hm, _, h1, h2, h3⟩ := (hasV_list hL hg).1 hc
    exact hno t (by rw [List.take_of_length_le (by omega)]; exact hm) ⟨h1, h2, h3⟩
end Go.Proofs.YtnoeabmpdjpfaaaGreatDoor.Vc

/- The reference's Resolve. -/
set_option linter.unusedVariables false
set_option linter.unusedSimpArgs false
set_option maxRecDepth 100000
namespace Go.Proofs.YtnoeabmpdjpfaaaGreatDoor.Vc
open Go Go.Proofs

/-- What the reference's Resolve tells. -/
def RresX (v : Int → Option AN) (p : List UInt8) (rs : List GV) : Prop := ∃ g e, rs = [.s (.int .i64 g), .s (.int .i64 e)] ∧ ((Pa.splitA p).2 ≠ 0 → g = 0 ∧ e = (Pa.splitA p).2) ∧ ((Pa.splitA p).2 = 0 → ResV v (Pa.splitA p).1 1 g e)

theorem rResolve_spec (w : World) (A m : PH) (hm : m.le w) (b : Nat) (l : List TN) (ls : List (List TN)) (h : RM A m b l ls) (hA : A.le w) (hL : LOk l) (hg : VGood (viewL l)) (hl : l.length ≤ 1099511627776) (p : List UInt8) (hp : p.length < 4294967281) :
    Spec Tryz.prog f_ref20_Resolve [ptr b, .string (Pa.mkS p)] PH.no w fun rs _ => RresX (viewL l) p rs := by
  refine spec_val k_ref20_Resolve (Qf := RresX (viewL l) p) [.g (.s (ptr b)), .g (.s (.string (Pa.mkS p)))] (by simp) (by simp [AV.ok, GV.ok, Value.oneCell', ptr]) ?_
  simp (maxSteps := 2000000) only [c_ref20_Resolve, vc_seq, vc_rg, thenQ_n, kKeep_eq, segs_nil, segs_n, ops_nil, ops_cons, vcOp, ev, look, put_mk, keep_mk, keepL, Value.oneCell', cond_true, Nat.reduceEqDiff, ↓reduceIte, reduceCtorEq, Nat.zero_add, initF, initP, ptr]
  refine call_frz (dOk_spec rfl) rfl (Q := Pa.SplitR (Pa.splitA p)) (fun w' vs hv hw _ => ?_) fun rs m' hrs hq => ?_
  · obtain ⟨vs, rfl, _, hv⟩ := argsV_g hv
    obtain rfl := argsV_nil hv
    exact Pa.refSplit_spec w' p hp
  obtain ⟨ns, er, hse⟩ : ∃ ns er, Pa.splitA p = (ns, er) := ⟨_, _, rfl⟩
  rw [hse] at hq
  obtain ⟨v, rfl, hv⟩ := hq
  simp only at hv
  have hnl : ns.length ≤ 64 := by
    have := Pa.splitA_len p
    rwa [hse] at this
  simp (maxSteps := 2000000) only [retS, List.getElem?_cons_zero, List.getElem?_cons_succ, vc_skip, vc_ret, vc_seq, vc_rg, vc_ite, thenQ_n, thenQ_r, kKeep_eq, segs_nil, segs_n, ops_nil, ops_cons, vcOp, ev, look, put_mk, keep_mk, keepL, binV, binC, Value.oneCell', cond_true, Nat.reduceEqDiff, ↓reduceIte, reduceCtorEq, Bool.true_and, true_and, finW_r, resL, resOne, br_t]
  refine ⟨fun he => ?_, fun he => ?_⟩
  · have he' : er ≠ 0 := by simpa using he
    refine ⟨_, _, rfl, fun _ => ⟨rfl, by rw [hse]⟩, fun h => ?_⟩
    rw [hse] at h
    exact absurd h he'
  refine gh_rk 6 6 (.s (.string ⟨#[]⟩)) rfl rfl hv.toR (KN.mem (by simp)) ?_
  simp (maxSteps := 2000000) only [vc_seq, vc_block, vc_rg, thenQ_n, kKeep_eq, segs_nil, segs_n, ops_nil, ops_cons, vcOp, ev, look, put_mk, keep_mk, keepL, Value.oneCell', cond_true, Nat.reduceEqDiff, ↓reduceIte, reduceCtorEq, List.length_map]
  refine vc_loop (ι := Nat × Int) (fun q => ⟨[(0, .g (.s (.pointer (some ⟨b, 0, none⟩)))), (6, .row 6 0 (ns.length)), (8, .g (.s (.int .i64 (q.2)))), (9, .g (.s (.int .i64 (q.1))))], [(6, .ro 1 (.s (.string ⟨#[]⟩)) (ns.map Pa.gN))], [m'], PH.no⟩)
    (fun q => q.1 ≤ ns.length ∧ ∀ g e, ResV (viewL l) (ns.drop q.1) q.2 g e → ResV (viewL l) ns 1 g e) (fun q => ns.length - q.1) (0, 1) ⟨by simp, fun g e h => h⟩ (ge_of ?_ ?_ rfl rfl rfl) ?_
  · simp [frIn, look]
  · simp [pvIn, look]
  rintro ⟨i, cur⟩ ⟨hi, hW⟩
  simp only at hi hW
  generalize hQ : loopQ _ _ _ _ _ = Q
  simp (maxSteps := 2000000) only [c_ref20_Resolve_L0, Pa.getD_gN, vc_skip, vc_exit, vc_seq, vc_block, vc_rg, vc_ite, thenQ_n, thenQ_e, kKeep_eq, segs_nil, segs_n, ops_nil, ops_cons, vcOp, ev, look, put_mk, keep_mk, keepL, rowE, rowD, binV, binC, Nat.reduceEqDiff, ↓reduceIte, reduceCtorEq, Nat.zero_add, Bool.true_and, Bool.not_false, true_and, Int.toNat_natCast, decide_eq_true_eq, decide_eq_false_iff_not, br_t, getT_nil, fits_s]
  refine ⟨fun hlt => ⟨⟨by omega, by omega⟩, ?_⟩, fun hge => ?_⟩
  · refine call_val (dOk_spec rfl) rfl (Q := fun rs m' => ∃ best, rs = [.s (.int .i64 best), .s (.bool (best != 0))] ∧ LookV (viewL l) (Pa.mkS (ns.getD i [])) cur best) (fun w' vs hv hw _ => ?_) fun rs m1 hrs hq => ?_
    · obtain ⟨vs, rfl, _, hv⟩ := argsV_g hv
      obtain ⟨vs, rfl, _, hv⟩ := argsV_g hv
      obtain ⟨vs, rfl, _, hv⟩ := argsV_g hv
      obtain rfl := argsV_nil hv
      exact rLookup_spec w' A m (fun b o h => hw b o (by rw [u0_no]; exact hm b o h)) b l ls h hL hg cur _ hl
    obtain ⟨best, rfl, hV⟩ := hq
    have hdr : ns.drop i = ns.getD i [] :: ns.drop (i + 1) := by
      have hi2 : i < ns.length := by omega
      rw [List.drop_eq_getElem_cons hi2, List.getD_eq_getElem?_getD, List.getElem?_eq_getElem hi2]; rfl
    have he0 : er = 0 := by simpa using he
    simp (maxSteps := 2000000) only [retS, List.getElem?_cons_zero, List.getElem?_cons_succ, vc_skip, vc_ret, vc_seq, vc_rg, vc_ite, thenQ_n, thenQ_r, blockQ_n, blockQ_r, kKeep_eq, segs_nil, segs_n, ops_nil, ops_cons, vcOp, ev, look, put_mk, keep_mk, keepL, binV, binC, unV, Value.oneCell', cond_true, Nat.reduceEqDiff, ↓reduceIte, reduceCtorEq, Bool.true_and, true_and, br_t]
    refine ⟨fun hb => ?_, fun hb => ?_⟩
    · subst hQ
      simp (maxSteps := 2000000) only [thenQ_r, blockQ_r, loopQ_r, look, Nat.reduceEqDiff, ↓reduceIte, finW_r, resL, resOne]
      have hb0 : best = 0 := by simpa using hb
      refine ⟨_, _, rfl, fun h => ?_, fun _ => ?_⟩
      · rw [hse] at h; exact absurd he0 h
      · rw [hse]
        exact hW _ _ (by rw [hdr]; exact ⟨best, hV, fun _ => ⟨rfl, rfl⟩, fun h => absurd hb0 h⟩)
    · have hb0 : best ≠ 0 := by simpa using hb
      subst hQ; simp only [loopQ_n]; refine ⟨(i + 1, best), ?_, ?_, ge_of ?_ ?_ rfl rfl rfl⟩
      · exact ⟨by simp only; omega, fun g e h => hW g e (by rw [hdr]; exact ⟨best, hV, fun h => absurd h hb0, fun _ => h⟩)⟩
      · simp only; omega
      · simp only [frIn, look, Nat.reduceEqDiff, ↓reduceIte, reduceCtorEq, Bool.and_true, Bool.true_and, true_and, and_true]
        rw [wrap_n (by omega)]
        try simp
      · simp [pvIn, look]
  · subst hQ
    simp (maxSteps := 2000000) only [vc_ret, vc_seq, vc_rg, thenQ_n, blockQ_e, kKeep_eq, loopQ_e, segs_nil, segs_n, ops_nil, ops_cons, vcOp, ev, look, put_mk, keep_mk, keepL, Value.oneCell', cond_true, Nat.reduceEqDiff, ↓reduceIte, reduceCtorEq, finW_r, resL, resOne]
    have he0 : er = 0 := by simpa using he
    refine ⟨_, _, rfl, fun h => ?_, fun _ => ?_⟩
    · rw [hse] at h; exact absurd he0 h
    · rw [hse]
      exact hW _ _ (by rw [show i = ns.length by omega, List.drop_length]; exact ⟨rfl, rfl⟩)
end Go.Proofs.YtnoeabmpdjpfaaaGreatDoor.Vc

/- Are two lists of children, two lists of attributes, the same? -/
set_option linter.unusedVariables false
set_option linter.unusedSimpArgs false
set_option maxRecDepth 100000
namespace Go.Proofs.YtnoeabmpdjpfaaaGreatDoor.Vc
open Go Go.Proofs

instance : DecidableEq Child := fun a b => decidable_of_iff (a.name = b.name ∧ a.node = b.node) (by cases a; cases b; simp)
theorem eqGV_child (a b : Child) : eqGV (gChild a) (gChild b) = decide (a = b) := by
  obtain ⟨k1, v1⟩ := a
  obtain ⟨k2, v2⟩ := b
  simp only [eqGV, gChild, eqScB, Bool.and_true]
  by_cases h1 : k1 = k2
  · by_cases h2 : v1 = v2
    · simp [h1, h2]
    · simp [h1, h2]
  · simp [h1]
theorem eqG_child (a b : Child) : EqG Tryz.prog 51 (gChild a) (gChild b) (decide (a = b)) := by
  rw [← eqGV_child]
  exact eqG_of (z := gChild zChild) (by kernel_rfl) (by kernel_rfl) rfl ⟨trivial, rfl, trivial⟩ ⟨trivial, rfl, trivial⟩ (gChild_ok a) (gChild_ok b)
theorem attrs20_spec (w : World) (va vb : Value) (a b : List Attr) (hb : a.length ≤ 140737488355328) (hb2 : b.length ≤ 140737488355328) (u : PH) (hu : u.le w) (ha : SlR u va 2 (a.map gAttr)) (hbb : SlR u vb 2 (b.map gAttr)) :
    Spec Tryz.prog f_law20_attrs [va, vb] PH.no w fun rs _ => rs = [.s (.bool (decide (a = b)))] := by
  refine spec_val k_law20_attrs (Qf := fun rs => rs = [.s (.bool (decide (a = b)))]) [.ro va 2 (gAttr zAttr) (a.map gAttr), .ro vb 2 (gAttr zAttr) (b.map gAttr)] (by simp) (by simpa [AV.ok, u0_no] using ⟨ha.up hu.sub, hbb.up hu.sub⟩) ?_
  simp (maxSteps := 2000000) only [c_law20_attrs, vc_skip, vc_ret, vc_seq, vc_block, vc_rg, vc_ite, thenQ_n, thenQ_r, kKeep_eq, segs_nil, segs_n, ops_nil, ops_cons, vcOp, ev, look, put_mk, keep_mk, keepL, binV, binC, Value.oneCell', cond_true, Nat.reduceEqDiff, ↓reduceIte, reduceCtorEq, Nat.zero_add, Bool.true_and, true_and, initF, initP, finW_r, resL, resOne, br_t, List.length_map]
  refine ⟨fun hne => ?_, fun heq => ?_⟩
  · rw [bne_iff_ne] at hne
    rw [decide_eq_false fun e => hne (by rw [e])]
  rw [bne_eq_false_iff_eq] at heq
  refine vc_loop (ι := Nat) (fun i => ⟨[(0, .row 0 0 (a.length)), (1, .row 1 0 (b.length)), (12, .g (.s (.int .i64 (a.length)))), (13, .g (.s (.int .i64 (i))))], [(0, .ro 2 (gAttr zAttr) (a.map gAttr)), (1, .ro 2 (gAttr zAttr) (b.map gAttr))], [], PH.no⟩) (fun i => i ≤ a.length ∧ a.take i = b.take i) (fun i => a.length - i) 0 (by simp) (ge_of ?_ ?_ rfl rfl rfl) ?_
  · simp [frIn, look]
  · simp [pvIn, look]
  rintro i ⟨hi, hj⟩
  generalize hQ : loopQ _ _ _ _ _ = Q
  simp (maxSteps := 2000000) only [c_law20_attrs_L0, vc_skip, vc_exit, vc_seq, vc_block, vc_rg, vc_rgq, vc_ite, thenQ_n, thenQ_e, kKeep_eq, segs_nil, segs_n, ops_nil, ops_cons, qsegs_nil, qsegs_n, qops_nil, qops_cons, vcqOp, vcOp, isRd, ev, look, put_mk, keep_mk, keepL, rowE, rowD, binV, binC, Nat.reduceEqDiff, ↓reduceIte, reduceCtorEq, Nat.zero_add, Bool.true_and, true_and, Int.toNat_natCast, decide_eq_true_eq, decide_eq_false_iff_not, br_t, getT_nil, gAttr_fits, getD_gAttr]
  refine ⟨fun hlt => ⟨⟨by omega, by omega⟩, ⟨by omega, by omega⟩, eq_of (eqG_attr _ _) ?_⟩, fun hlt => ?_⟩
  · simp (maxSteps := 2000000) only [Bool.not_eq_true', Bool.not_eq_false', decide_eq_false_iff_not, decide_eq_true_eq, vc_skip, vc_ret, vc_seq, vc_rg, vc_ite, thenQ_n, thenQ_r, blockQ_n, blockQ_r, kKeep_eq, segs_nil, segs_n, ops_nil, ops_cons, vcOp, ev, look, put_mk, keep_mk, keepL, binV, binC, Value.oneCell', cond_true, Nat.reduceEqDiff, ↓reduceIte, reduceCtorEq, Bool.true_and, true_and, decide_eq_true_eq, decide_eq_false_iff_not, br_t, Bool.bne_true]
    refine ⟨fun hne => ?_, fun he => ?_⟩
    · subst hQ
      simp (maxSteps := 2000000) only [thenQ_r, blockQ_r, loopQ_r, look, ↓reduceIte, finW_r, resL, resOne]
      rw [decide_eq_false fun e => hne (by rw [e])]
    · subst hQ; simp only [loopQ_n]; refine ⟨i + 1, ?_, ?_, ge_of ?_ ?_ rfl rfl rfl⟩
      · refine ⟨by omega, ?_⟩
        rw [List.take_add_one, List.take_add_one, hj]
        congr 1
        rw [List.getD_eq_getElem?_getD, List.getD_eq_getElem?_getD, List.getElem?_eq_getElem (by omega), List.getElem?_eq_getElem (by omega)] at he
        rw [List.getElem?_eq_getElem (by omega), List.getElem?_eq_getElem (by omega)]
        simpa using he
      · omega
      · simp only [frIn, look, Nat.reduceEqDiff, ↓reduceIte, reduceCtorEq, Bool.and_true, Bool.true_and, true_and, and_true]
        rw [wrap_n (by omega)]
        try simp
      · simp [pvIn, look]
  · subst hQ
    simp (maxSteps := 2000000) only [vc_ret, vc_seq, vc_rg, thenQ_n, blockQ_e, kKeep_eq, loopQ_e, segs_nil, segs_n, ops_nil, ops_cons, vcOp, ev, look, put_mk, keep_mk, keepL, Value.oneCell', cond_true, ↓reduceIte, finW_r, resL, resOne]
    have e1 : a.take i = a := List.take_of_length_le (by omega)
    have e2 : b.take i = b := List.take_of_length_le (by omega)
    rw [e1, e2] at hj
    rw [decide_eq_true hj]

theorem children20_spec (w : World) (va vb : Value) (a b : List Child) (hb : a.length ≤ 140737488355328) (hb2 : b.length ≤ 140737488355328) (u : PH) (hu : u.le w) (ha : SlR u va 2 (a.map gChild)) (hbb : SlR u vb 2 (b.map gChild)) :
    Spec Tryz.prog f_law20_children [va, vb] PH.no w fun rs _ => rs = [.s (.bool (decide (a = b)))] := by
  refine spec_val k_law20_children (Qf := fun rs => rs = [.s (.bool (decide (a = b)))]) [.ro va 2 (gChild zChild) (a.map gChild), .ro vb 2 (gChild zChild) (b.map gChild)] (by simp) (by simpa [AV.ok, u0_no] using ⟨ha.up hu.sub, hbb.up hu.sub⟩) ?_
  simp (maxSteps := 2000000) only [c_law20_children, vc_skip, vc_ret, vc_seq, vc_block, vc_rg, vc_ite, thenQ_n, thenQ_r, kKeep_eq, segs_nil, segs_n, ops_nil, ops_cons, vcOp, ev, look, put_mk, keep_mk, keepL, binV, binC, Value.oneCell', cond_true, Nat.reduceEqDiff, ↓reduceIte, reduceCtorEq, Nat.zero_add, Bool.true_and, true_and, initF, initP, finW_r, resL, resOne, br_t, List.length_map]
  refine ⟨fun hne => ?_, fun heq => ?_⟩
  · rw [bne_iff_ne] at hne
    rw [decide_eq_false fun e => hne (by rw [e])]
  rw [bne_eq_false_iff_eq] at heq
  refine vc_loop (ι := Nat) (fun i => ⟨[(0, .row 0 0 (a.length)), (1, .row 1 0 (b.length)), (12, .g (.s (.int .i64 (a.length)))), (13, .g (.s (.int .i64 (i))))], [(0, .ro 2 (gChild zChild) (a.map gChild)), (1, .ro 2 (gChild zChild) (b.map gChild))], [], PH.no⟩) (fun i => i ≤ a.length ∧ a.take i = b.take i) (fun i => a.length - i) 0 (by simp) (ge_of ?_ ?_ rfl rfl rfl) ?_
  · simp [frIn, look]
  · simp [pvIn, look]
  rintro i ⟨hi, hj⟩
  generalize hQ : loopQ _ _ _ _ _ = Q
  simp (maxSteps := 2000000) only [c_law20_children_L0, vc_skip, vc_exit, vc_seq, vc_block, vc_rg, vc_rgq, vc_ite, thenQ_n, thenQ_e, kKeep_eq, segs_nil, segs_n, ops_nil, ops_cons, qsegs_nil, qsegs_n, qops_nil, qops_cons, vcqOp, vcOp, isRd, ev, look, put_mk, keep_mk, keepL, rowE, rowD, binV, binC, Nat.reduceEqDiff, ↓reduceIte, reduceCtorEq, Nat.zero_add, Bool.true_and, true_and, Int.toNat_natCast, decide_eq_true_eq, decide_eq_false_iff_not, br_t, getT_nil, gChild_fits, getD_gChild]
  refine ⟨fun hlt => ⟨⟨by omega, by omega⟩, ⟨by omega, by omega⟩, eq_of (eqG_child _ _) ?_⟩, fun hlt => ?_⟩
  · simp (maxSteps := 2000000) only [Bool.not_eq_true', Bool.not_eq_false', decide_eq_false_iff_not, decide_eq_true_eq, vc_skip, vc_ret, vc_seq, vc_rg, vc_ite, thenQ_n, thenQ_r, blockQ_n, blockQ_r, kKeep_eq, segs_nil, segs_n, ops_nil, ops_cons, vcOp, ev, look, put_mk, keep_mk, keepL, binV, binC, Value.oneCell', cond_true, Nat.reduceEqDiff, ↓reduceIte, reduceCtorEq, Bool.true_and, true_and, decide_eq_true_eq, decide_eq_false_iff_not, br_t, Bool.bne_true]
    refine ⟨fun hne => ?_, fun he => ?_⟩
    · subst hQ
      simp (maxSteps := 2000000) only [thenQ_r, blockQ_r, loopQ_r, look, ↓reduceIte, finW_r, resL, resOne]
      rw [decide_eq_false fun e => hne (by rw [e])]
    · subst hQ; simp only [loopQ_n]; refine ⟨i + 1, ?_, ?_, ge_of ?_ ?_ rfl rfl rfl⟩
      · refine ⟨by omega, ?_⟩
        rw [List.take_add_one, List.take_add_one, hj]
        congr 1
        rw [List.getD_eq_getElem?_getD, List.getD_eq_getElem?_getD, List.getElem?_eq_getElem (by omega), List.getElem?_eq_getElem (by omega)] at he
        rw [List.getElem?_eq_getElem (by omega), List.getElem?_eq_getElem (by omega)]
        simpa using he
      · omega
      · simp only [frIn, look, Nat.reduceEqDiff, ↓reduceIte, reduceCtorEq, Bool.and_true, Bool.true_and, true_and, and_true]
        rw [wrap_n (by omega)]
        try simp
      · simp [pvIn, look]
  · subst hQ
    simp (maxSteps := 2000000) only [vc_ret, vc_seq, vc_rg, thenQ_n, blockQ_e, kKeep_eq, loopQ_e, segs_nil, segs_n, ops_nil, ops_cons, vcOp, ev, look, put_mk, keep_mk, keepL, Value.oneCell', cond_true, ↓reduceIte, finW_r, resL, resOne]
    have e1 : a.take i = a := List.take_of_length_le (by omega)
    have e2 : b.take i = b := List.take_of_length_le (by omega)
    rw [e1, e2] at hj
    rw [decide_eq_true hj]

end Go.Proofs.YtnoeabmpdjpfaaaGreatDoor.Vc

/- The reference's Node. -/
set_option linter.unusedVariables false
set_option linter.unusedSimpArgs false
set_option maxRecDepth 100000
namespace Go.Proofs.YtnoeabmpdjpfaaaGreatDoor.Vc
open Go Go.Proofs

/-- What the reference's Node tells. -/
def RNodeQ (l : List TN) (n : Int) (rs : List GV) (m' : PH) : Prop := ∃ t, rs = [gTreeNode t, .s (.bool (isL l n))] ∧ (isL l n = false → t = zTreeNode) ∧ ∀ r, getL l n = some r → t.node = r.node ∧ t.parent = r.parent ∧ t.name = r.name ∧ SlR m' t.attrs 2 (r.attrs.map gAttr)
theorem rNode_spec (w : World) (A m : PH) (hm : m.le w) (hA : A.le w) (b : Nat) (l : List TN) (ls : List (List TN)) (h : RM A m b l ls) (n : Int) (hl : l.length ≤ 1099511627776) (hs : ∀ t ∈ l, t.attrs.length ≤ 1099511627776) :
    Spec Tryz.prog f_ref12_Tree_Node [ptr b, .int .i64 n] PH.no w (RNodeQ l n) := by
  refine spec_of k_ref12_Tree_Node [.g (.s (ptr b)), .g (.s (.int .i64 n))] (by simp) (by simp [AV.ok, GV.ok, Value.oneCell', ptr]) ?_
  obtain ⟨b2, o2, c, ts, hlts, h0, hts, hsl, hs0, hsi⟩ := h.look
  have hk : ∀ {l : List PH}, KN (⟨Tryz.prog, 28, w, PH.no⟩ : Ctx).u0 l m := kn_u hm
  simp (maxSteps := 2000000) only [c_ref12_Tree_Node, vc_seq, vc_rg, thenQ_n, kKeep_eq, segs_nil, segs_n, ops_nil, ops_cons, vcOp, ev, look, updL, put_mk, keep_mk, keepL, Value.oneCell', cond_true, Nat.reduceEqDiff, ↓reduceIte, reduceCtorEq, Nat.zero_add, Bool.true_and, true_and, initF, initP, gTreeNode_zero, ptr]
  refine call_is _ [.s (.int .i64 (findL l n)), .s (.bool (isL l n))] rfl rfl (fun w' vs hv hw => ?_) ?_
  · obtain ⟨vs, rfl, _, hv⟩ := argsV_g hv
    obtain ⟨vs, rfl, _, hv⟩ := argsV_g hv
    obtain rfl := argsV_nil hv
    intro _
    exact find_spec w' A m (fun b o h => hw b o (by rw [u0_no]; exact hm b o h)) b l ls h n (by omega)
  simp (maxSteps := 2000000) only [retS, List.getElem?_cons_zero, List.getElem?_cons_succ, vc_skip, vc_ret, vc_seq, vc_rg, vc_ite, thenQ_n, thenQ_r, kKeep_eq, finQ_r, segs_nil, segs_n, ops_nil, ops_cons, vcOp, ev, evL, gvL, look, updL, put_mk, put_mk0, keep_mk, keepL, unV, Value.oneCell', cond_true, Nat.reduceEqDiff, ↓reduceIte, reduceCtorEq, Nat.add_zero, Bool.and_true, Bool.true_and, true_and, and_true, List.map_nil, br_t, GV.bldT, GV.bldC, getT_nil, setT_nil, gTreeNode_sz, gTreeNode_same]
  refine ⟨fun hn => ?_, fun hy => ?_⟩
  · have hn : isL l n = false := by simpa using hn
    refine fin_m (rs := [gTreeNode zTreeNode, .s (.bool false)]) PH.no rfl (fun _ _ h => h) ⟨zTreeNode, by rw [hn], fun _ => rfl, fun r hr => ?_⟩
    rw [getL, hn] at hr
    cases hr
  have hy : isL l n = true := by simpa using hy
  obtain ⟨r, hr⟩ : ∃ r, getL l n = some r := by
    have := hy
    rw [isL_get] at this
    exact Option.isSome_iff_exists.1 this
  obtain ⟨hlt, hgd⟩ := getL_at hr
  refine ld_of _ (hs0 hk) rfl ?_
  simp (maxSteps := 2000000) only [ops_cons, vcOp, ev, look, put_mk, bndN, binV, binC, Value.oneCell', cond_true, Nat.reduceEqDiff, ↓reduceIte, reduceCtorEq, Bool.true_and, true_and, Int.toNat_natCast]
  rw [wrap_n (by omega)]
  have hfl : findL l n < ts.length := by omega
  have hc : ts.length ≤ c := by
    obtain ⟨_, ⟨h1, _⟩ | ⟨a, c', h1, h2, _⟩⟩ := hsl
    · cases h1
    · simp only [Value.slice.injEq] at h1
      rw [List.length_map] at h1 h2
      omega
  have hrow : ((ts.map gTreeNode).drop (findL l n)).take (findL l n + 1 - findL l n) = [ts.getD (findL l n) zTreeNode].map gTreeNode := by
    rw [← List.map_drop, ← List.map_take, show findL l n + 1 - findL l n = 1 by omega, List.drop_eq_getElem_cons hfl, List.getD_eq_getElem?_getD, List.getElem?_eq_getElem hfl]
    rfl
  have hcut := hsl.cut (lo := findL l n) (hi := findL l n + 1) (by omega) (by omega)
  rw [hrow] at hcut
  have hat := hts.at (findL l n) hfl
  rw [hgd] at hat
  have hrm : r ∈ l := by rw [← hgd, List.getD_eq_getElem?_getD, List.getElem?_eq_getElem hlt]; exact List.getElem_mem hlt
  refine ⟨⟨by omega, by omega, by omega, by omega⟩, ?_⟩
  refine call_ownm rfl rfl (Q := fun rs m' => ∃ v mn ma ts', rs = [.s v] ∧ m' = uni mn ma ∧ dis mn ma ∧ SlO mn v 32 4 (ts'.map gTreeNode) ∧ TsOk ma ts' [r]) (fun w' vs hv hw _ _ => ?_) fun rs m1 _ hq _ => ?_
  · obtain ⟨vs, rfl, _, hv⟩ := argsV_g hv
    obtain rfl := argsV_nil hv
    have sm : PH.sub m w'.ph := fun b o h => hw b o (by rw [u0_no]; exact hm b o h)
    have sA : PH.sub A w'.ph := fun b o h => hw b o (by rw [u0_no]; exact hA b o h)
    exact clone_spec w' _ [ts.getD (findL l n) zTreeNode] [r] w'.ph (fun _ _ h => h) (hcut.up sm) ⟨⟨hat.1, hat.2.1, hat.2.2.1, hat.2.2.2.up sA⟩, trivial⟩ (by simp) (fun t ht => by simp only [List.mem_singleton] at ht; subst ht; exact hs _ hrm)
  obtain ⟨v, mn, ma, ts', rfl, rfl, hd, hS, hT'⟩ := hq
  obtain ⟨t, rfl⟩ : ∃ t, ts' = [t] := by
    have := hT'.len
    match ts', this with
    | [t], _ => exact ⟨t, rfl⟩
  rcases hS.toR.shape with ⟨h1, _⟩ | ⟨_, b3, o3, c3, rfl, h3, h4⟩
  · cases h1
  have hseen := fun {C : Ctx} {ph : List PH} => h4 (C := C) (ph := ph) (m := uni mn ma) (fun j ob hj => .inr ⟨uni mn ma, by simp, sub_uni_l _ _ j ob hj⟩) 0 (gTreeNode t) rfl
  simp (maxSteps := 2000000) only [retS, uni_no_r, ops_cons, vcOp, ev, look, put_mk, Value.oneCell', cond_true, Nat.reduceMul, ↓reduceIte, Nat.zero_add, Nat.add_zero, Bool.true_and, true_and, List.map_cons, List.map_nil, List.length_cons, List.length_nil, Int.toNat_natCast, Int.reduceToNat, Int.reduceLE]
  refine ⟨by omega, ld_of _ hseen rfl ?_⟩
  simp (maxSteps := 2000000) only [vc_ret, thenQ_n, kKeep_eq, finQ_r, segs_nil, ops_nil, ops_cons, vcOp, ev, look, updL, put_mk, put_mk0, keep_mk, keepL, Value.oneCell', cond_true, Nat.reduceEqDiff, ↓reduceIte, reduceCtorEq, Bool.and_true, Bool.true_and, true_and, and_true, getT_nil, setT_nil, gTreeNode_sz, gTreeNode_same]
  refine fin_m (rs := [gTreeNode t, .s (.bool true)]) _ rfl (fun _ _ h => h) ⟨t, by rw [hy], (fun h => by rw [hy] at h; cases h), fun r' hr' => ?_⟩
  rw [hr] at hr'
  cases hr'
  have hat' := hT'.at 0 (by simp)
  exact ⟨hat'.1, hat'.2.1, hat'.2.2.1, hat'.2.2.2.up (sub_uni_r hd)⟩
end Go.Proofs.YtnoeabmpdjpfaaaGreatDoor.Vc

/- The children that the reference tells: plain. -/
set_option linter.unusedVariables false
set_option linter.unusedSimpArgs false
namespace Go.Proofs.YtnoeabmpdjpfaaaGreatDoor.Vc
open Go

/-- The rows beneath a node, in the order of rows. -/
def kidsL (l : List TN) (n : Int) : List Child := (l.filter fun t => decide (t.parent = n) && decide (2 < t.node)).map fun t => ⟨t.name, t.node⟩
theorem kidsL_snoc (l : List TN) (r : TN) (n : Int) : kidsL (l ++ [r]) n = kidsL l n ++ (if r.parent = n ∧ 2 < r.node then [⟨r.name, r.node⟩] else []) := by
  unfold kidsL
  rw [List.filter_append, List.map_append, List.filter_cons, List.filter_nil]
  by_cases h1 : r.parent = n <;> by_cases h2 : 2 < r.node <;> simp [h1, h2]
theorem kidsL_len (l : List TN) (n : Int) : (kidsL l n).length ≤ l.length := by
  unfold kidsL
  rw [List.length_map]
  exact List.length_filter_le _ _
/-- One more, behind those whose names are not greater. -/
def insC (c : Child) : List Child → List Child
  | [] => [c]
  | d :: l => if leB d.name c.name = true then d :: insC c l else c :: d :: l
theorem insC_at {c : Child} : ∀ {out : List Child} {p : Nat}, (∀ j, j < p → leB (out.getD j zChild).name c.name = true) → p ≤ out.length → (p < out.length → leB (out.getD p zChild).name c.name = false) → insC c out = out.take p ++ c :: out.drop p
  | [], p, _, h2, _ => by
    have : p = 0 := by simpa using h2
    subst this
    rfl
  | d :: out, 0, _, _, h3 => by
    have h : leB d.name c.name = false := h3 (by simp)
    rw [insC, if_neg (by rw [h]; simp)]
    rfl
  | d :: out, p + 1, h1, h2, h3 => by
    have h : leB d.name c.name = true := h1 0 (by omega)
    rw [insC, if_pos h, insC_at (p := p) (fun j hj => by simpa using h1 (j + 1) (by omega)) (by simpa using h2) (fun hp => by simpa using h3 (by simpa using hp))]
    rfl
theorem insC_perm (c : Child) : ∀ l, (insC c l).Perm (c :: l)
  | [] => List.Perm.refl _
  | d :: l => by
    rw [insC]
    split
    · exact ((insC_perm c l).cons d).trans (List.Perm.swap c d l)
    · exact List.Perm.refl _
theorem leB_iff (a b : ByteArray) : leB a b = true ↔ a.data.toList < b.data.toList ∨ a = b := by
  rw [leB, bytesLess_lt]
  simp
theorem insC_sorted {c : Child} : ∀ {l : List Child}, l.Pairwise (fun x y => ltC x y = true) → (∀ d ∈ l, d.node < c.node) → (insC c l).Pairwise fun x y => ltC x y = true
  | [], _, _ => by simp [insC]
  | d :: l, h, hn => by
    rw [List.pairwise_cons] at h
    rw [insC]
    split
    · rename_i hle
      refine List.pairwise_cons.2 ⟨fun x hx => ?_, insC_sorted h.2 fun d hd => hn d (List.mem_cons_of_mem _ hd)⟩
      rcases List.mem_cons.1 ((insC_perm c l).mem_iff.1 hx) with rfl | hx
      · rw [ltC_iff]
        rcases (leB_iff _ _).1 hle with h1 | h1
        · exact .inl h1
        · exact .inr ⟨h1, hn d (by simp)⟩
      · exact h.1 x hx
    · rename_i hle
      have hcd : ltC c d = true := by
        rw [ltC_iff]
        rcases bytes_tri d.name c.name with k | k | k
        · exact absurd ((leB_iff _ _).2 (.inl k)) hle
        · exact absurd ((leB_iff _ _).2 (.inr k)) hle
        · exact .inl k
      refine List.pairwise_cons.2 ⟨fun x hx => ?_, List.pairwise_cons.2 h⟩
      rcases List.mem_cons.1 hx with rfl | hx
      · exact hcd
      · exact ltC_trans _ _ _ hcd (h.1 x hx)
def foldC (acc cs : List Child) : List Child := cs.foldl (fun acc c => insC c acc) acc
theorem foldC_snoc (acc cs : List Child) (c : Child) : foldC acc (cs ++ [c]) = insC c (foldC acc cs) := by simp [foldC]
theorem foldC_perm : ∀ (cs acc : List Child), (foldC acc cs).Perm (acc ++ cs)
  | [], acc => by simp [foldC]
  | c :: cs, acc => by
    have h : (foldC (insC c acc) cs).Perm (insC c acc ++ cs) := foldC_perm cs _
    have h2 : (insC c acc ++ cs).Perm (c :: acc ++ cs) := (insC_perm c acc).append_right cs
    exact h.trans (h2.trans List.perm_middle.symm)
theorem foldC_sorted : ∀ (cs acc : List Child), acc.Pairwise (fun x y => ltC x y = true) → cs.Pairwise (fun x y => x.node < y.node) → (∀ d ∈ acc, ∀ c ∈ cs, d.node < c.node) → (foldC acc cs).Pairwise fun x y => ltC x y = true
  | [], acc, h, _, _ => h
  | c :: cs, acc, h, h2, h3 => by
    rw [List.pairwise_cons] at h2
    refine foldC_sorted cs (insC c acc) (insC_sorted h fun d hd => h3 d hd c (by simp)) h2.2 fun d hd e he => ?_
    rcases List.mem_cons.1 ((insC_perm c acc).mem_iff.1 hd) with rfl | hd
    · exact h2.1 e he
    · exact h3 d hd e (List.mem_cons_of_mem _ he)
theorem foldC_len (acc cs : List Child) : (foldC acc cs).length = acc.length + cs.length := by
  rw [(foldC_perm cs acc).length_eq, List.length_append]
/-- What the reference's Children tells. -/
def rchildL (l : List TN) (n : Int) : List Child := foldC [] (kidsL l n)
theorem rchildL_len (l : List TN) (n : Int) : (rchildL l n).length ≤ l.length := by
  rw [rchildL, foldC_len]
  have := kidsL_len l n
  simpa using this
theorem rchildL_sort {l : List TN} (h : l.Pairwise fun a b => a.node < b.node) (n : Int) : rchildL l n = sortCh (kidsL l n) := by
  have hk : (kidsL l n).Pairwise fun x y => x.node < y.node := by
    unfold kidsL
    rw [List.pairwise_map]
    exact (h.sublist List.filter_sublist)
  have hs := foldC_sorted (kidsL l n) [] List.Pairwise.nil hk (by simp)
  have hp := foldC_perm (kidsL l n) []
  rw [List.nil_append] at hp
  refine List.Perm.eq_of_pairwise (le := fun x y => (!(ltOf cfC) y x) = true) (fun x y _ _ h1 h2 => ltC_anti x y (not_ltC h2) (not_ltC h1)) ?_ (sortCh_sorted _) (hp.trans (sortCh_perm _).symm)
  refine hs.imp fun {x y} hxy => ?_
  have : ltC y x = false := by
    rw [Bool.eq_false_iff]
    intro hyx
    have := ltC_trans _ _ _ hxy hyx
    rw [ltC_irrefl] at this; cases this
  show (!ltC y x) = true
  rw [this]; rfl
theorem rchildL_is {l : List TN} {T : PT} (hL : LOk l) (hv : viewL l = T.view) (hg : VGood T.view) (hkd : T.kidsOk) {n : Int} {x : PN} (hx : T.get n = some x) : rchildL l n = childA T n := by
  rw [rchildL_sort hL.sorted, childA_get hx]
  refine sortCh_uniq ?_
  have nd1 : (kidsL l n).Nodup := by
    unfold kidsL
    refine List.Pairwise.imp (R := fun x y : Child => x.node < y.node) (fun {a b} h e => by rw [e] at h; omega) ?_
    rw [List.pairwise_map]
    exact hL.sorted.sublist List.filter_sublist
  have nd2 : (x.kids.map (childOf T)).Nodup := by
    refine List.Pairwise.map (S := fun a b => a ≠ b) (childOf T) (fun a b h e => h ?_) (hkd.nod n x hx)
    have := congrArg Child.node e
    exact this
  refine (List.perm_ext_iff_of_nodup nd1 nd2).2 fun c => ?_
  have hgl : VGood (viewL l) := by rw [hv]; exact hg
  constructor
  · intro h
    obtain ⟨t, ht, rfl⟩ := List.mem_map.1 h
    obtain ⟨hm, hc⟩ := List.mem_filter.1 ht
    simp only [Bool.and_eq_true, decide_eq_true_eq] at hc
    have hV : HasV (viewL l) t.name n t.node := (hasV_list hL hgl).2 ⟨t, hm, rfl, hc.2, hc.1, rfl⟩
    rw [hv] at hV
    obtain ⟨htop, a, h1, h2, h3⟩ := hV
    obtain ⟨y, hy, rfl⟩ := get_of_view h1
    refine List.mem_map.2 ⟨t.node, (hkd.mem n x _ hx).2 ⟨htop, y, hy, h2⟩, ?_⟩
    rw [childOf_get hy]
    congr 1
  · intro h
    obtain ⟨m, hm, rfl⟩ := List.mem_map.1 h
    obtain ⟨htop, y, hy, hp⟩ := (hkd.mem n x m hx).1 hm
    have hV : HasV T.view y.name n m := ⟨htop, y.view, PT.view_get hy, hp, rfl⟩
    rw [← hv] at hV
    obtain ⟨t, ht, h1, h2, h3, h4⟩ := (hasV_list hL hgl).1 hV
    refine List.mem_map.2 ⟨t, List.mem_filter.2 ⟨ht, by simp [h3]; omega⟩, ?_⟩
    rw [childOf_get hy, h1, h4]
/-- The attributes of a row are those of the node. -/
theorem attrs_is {l : List TN} {T : PT} {k : Nat} (hL : LOk l) (hv : viewL l = T.view) (hok : T.ok k) (hg : VGood T.view) {n : Int} {r : TN} (hr : getL l n = some r) : r.attrs = attrsAt T n := by
  have hvn : viewL l n = T.view n := congrFun hv n
  rw [viewL, hr] at hvn
  obtain ⟨x, hx, hxv⟩ := get_of_view hvn.symm
  have hw : (⟨r.parent, r.name, lookA r.attrs⟩ : AN) = x.view := by simpa using hxv.symm
  simp only [PN.view, AN.mk.injEq] at hw
  have hat : attrsA ⟨#[]⟩ (attrsOf x) = true := attrsOf_ok (hok.attrs n x hx).1 fun k w h => hg.pairs n _ k w (PT.view_get hx) h
  rw [attrsAt, hx]
  exact attrs_uniq (hL.attrs _ ((getL_mem hL.sorted).1 hr).1) hat (by rw [hw.2.2]; funext j; exact (attrsOf_look x j).symm)
theorem getL_iff {l : List TN} {T : PT} (hv : viewL l = T.view) {n : Int} : (∃ r, getL l n = some r) ↔ ∃ x, T.get n = some x := by
  have h := isL_has hv n
  rw [isL_get, PT.has] at h
  rw [← Option.isSome_iff_exists, ← Option.isSome_iff_exists, h]
end Go.Proofs.YtnoeabmpdjpfaaaGreatDoor.Vc

/- The reference's Children. -/
set_option linter.unusedVariables false
set_option linter.unusedSimpArgs false
set_option maxRecDepth 100000
namespace Go.Proofs.YtnoeabmpdjpfaaaGreatDoor.Vc
open Go Go.Proofs

theorem rchildL_zero (n : Int) : rchildL [] n = [] := by simp [rchildL, kidsL, foldC]
theorem rchildL_snoc {l : List TN} {i : Nat} {r : TN} {n : Int} (h : l.take (i + 1) = l.take i ++ [r]) : rchildL (l.take (i + 1)) n = if r.parent = n ∧ 2 < r.node then insC ⟨r.name, r.node⟩ (rchildL (l.take i) n) else rchildL (l.take i) n := by
  rw [rchildL, h, kidsL_snoc]
  split
  · rw [foldC_snoc]; rfl
  · rw [List.append_nil]; rfl
theorem rChildren_spec (w : World) (A m : PH) (hm : m.le w) (b : Nat) (l : List TN) (ls : List (List TN)) (h : RM A m b l ls) (n : Int) (hl : l.length ≤ 1099511627776) :
    Spec Tryz.prog f_ref12_Tree_Children [ptr b, .int .i64 n] PH.no w fun rs m' => ∃ v, rs = [.s v] ∧ SlO m' v 51 2 ((rchildL l n).map gChild) := by
  refine spec_of k_ref12_Tree_Children [.g (.s (ptr b)), .g (.s (.int .i64 n))] (by simp) (by simp [AV.ok, GV.ok, Value.oneCell', ptr]) ?_
  obtain ⟨b2, o2, c, ts, hlts, h0, hts, _, hs0, hsi⟩ := h.look
  have hk : ∀ {l : List PH}, KN (⟨Tryz.prog, 69, w, PH.no⟩ : Ctx).u0 l m := kn_u hm
  simp (maxSteps := 2000000) only [c_ref12_Tree_Children, vc_seq, vc_block, vc_rg, thenQ_n, kKeep_eq, segs_nil, segs_n, ops_nil, ops_cons, vcOp, ev, look, put_mk, keep_mk, keepL, Value.oneCell', cond_true, Nat.reduceEqDiff, ↓reduceIte, reduceCtorEq, Nat.zero_add, initF, initP, ptr]
  refine vc_loop (ι := Nat × Value × PH) (fun q => ⟨[(0, .g (.s (.pointer (some ⟨b, 0, none⟩)))), (1, .g (.s (.int .i64 (n)))), (5, .g (.s q.2.1)), (6, .g (.s (.int .i64 (q.1))))], [], [], q.2.2⟩)
    (fun q => q.1 ≤ l.length ∧ SlO q.2.2 q.2.1 51 2 ((rchildL (l.take q.1) n).map gChild)) (fun q => l.length - q.1) (0, .slice none 0 0, PH.no) ⟨by simp, ⟨fun x hx => by simp [rchildL_zero] at hx, .inl ⟨rfl, by simp [rchildL_zero]⟩⟩⟩ (ge_of ?_ ?_ rfl rfl rfl) ?_
  · simp [frIn, look]
  · simp [pvIn, look]
  rintro ⟨i, v, mv⟩ ⟨hi, hS⟩
  simp only at hi hS
  generalize hQ : loopQ _ _ _ _ _ = Q
  simp (maxSteps := 2000000) only [c_ref12_Tree_Children_L1, vc_seq, vc_rg, segs_n, ops_cons, vcOp, ev, look, put_mk, Nat.reduceEqDiff, ↓reduceIte, reduceCtorEq, Nat.add_zero, gTreeNode_zero, gChild_zero]
  refine ld_of _ (hs0 hk) rfl ?_
  simp (maxSteps := 2000000) only [vc_skip, vc_exit, vc_seq, vc_block, vc_rg, vc_ite, thenQ_n, thenQ_e, kKeep_eq, segs_nil, segs_n, ops_nil, ops_cons, vcOp, ev, look, put_mk, keep_mk, keepL, binV, binC, Nat.reduceEqDiff, ↓reduceIte, reduceCtorEq, Nat.add_zero, Bool.true_and, true_and, decide_eq_true_eq, decide_eq_false_iff_not, br_t]
  refine ⟨fun hlt => ?_, fun hge => ?_⟩
  · refine ld_of _ (hs0 hk) rfl ?_
    simp (maxSteps := 2000000) only [ops_cons, vcOp, ev, look, put_mk, Nat.reduceEqDiff, ↓reduceIte, reduceCtorEq, Int.toNat_natCast]
    have hil : i < l.length := by omega
    obtain ⟨g1, g2, g3, _⟩ := hts.at i (by omega)
    refine ⟨⟨by omega, by omega⟩, ld_of _ (hsi hk i hil) rfl ?_⟩
    simp (maxSteps := 2000000) only [vc_skip, vc_exit, vc_seq, vc_rg, vc_ite, thenQ_n, thenQ_e, blockQ_e, kKeep_eq, segs_nil, segs_n, segs_g, ops_nil, ops_cons, vcOp, RO.isGh, skip_mk, skipL, ev, look, updL, put_mk, put_mk0, keep_mk, keepL, binV, binC, GV.getT, Value.oneCell', cond_true, cond_false, Nat.reduceEqDiff, ↓reduceIte, reduceCtorEq, List.nil_append, Bool.and_true, Bool.true_and, Bool.not_false, true_and, and_true, decide_eq_true_eq, decide_eq_false_iff_not, ↓br_tt, ↓br_ft, br_t, br_f, getT_nil, setT_nil, fits_s, gTreeNode_sz, gTreeNode_same, gTreeNode_fld0, gTreeNode_get0, gTreeNode_fld1, gTreeNode_get1]
    generalize ts.getD i zTreeNode = t at g1 g2 g3 ⊢
    obtain ⟨r, hr⟩ : ∃ r, l.getD i zTN = r := ⟨_, rfl⟩
    rw [hr] at g1 g2 g3
    have hri : l[i] = r := by rw [← hr, List.getD_eq_getElem?_getD, List.getElem?_eq_getElem hil]; rfl
    have htk : l.take (i + 1) = l.take i ++ [r] := by rw [List.take_succ_eq_append_getElem hil, hri]
    have hsn := rchildL_snoc (n := n) htk
    refine ⟨fun h1 => ⟨fun h2 => ?_, fun h2 => ?_⟩, fun h1 => ?_⟩
    · rw [if_neg (fun hh => by omega)] at hsn
      subst hQ; simp only [loopQ_n]; refine ⟨(i + 1, v, mv), ?_, ?_, ge_of ?_ ?_ rfl rfl rfl⟩
      · exact ⟨by simp only; omega, by simp only; rw [hsn]; exact hS⟩
      · simp only; omega
      · simp only [frIn, look, Nat.reduceEqDiff, ↓reduceIte, reduceCtorEq, Bool.and_true, Bool.true_and, true_and, and_true]
        rw [wrap_n (by omega)]
        try simp
      · simp [pvIn, look]
    · have h1 : t.parent = n := by simpa using h1
      rw [if_pos ⟨by omega, by omega⟩, ← g1, ← g3] at hsn
      refine gh_own 5 5 (gChild zChild) rfl rfl hS (uni_no_r _).symm (dis_no_r _) ?_
      have hol : (rchildL (l.take i) n).length ≤ l.length := Nat.le_trans (rchildL_len _ _) (by simp; omega)
      simp (maxSteps := 2000000) only [vc_seq, vc_block, thenQ_n, kKeep_eq, segs_nil, ops_nil, ops_cons, vcOp, ev, look, put_mk, keep_mk, keepL, Value.oneCell', cond_true, Nat.reduceEqDiff, ↓reduceIte, reduceCtorEq, List.length_map]
      generalize rchildL (l.take i) n = out at hsn hol ⊢
      clear hts hs0 hsi hS hk
      refine vc_loop (ι := Nat) (fun p => ⟨[(0, .g (.s (.pointer (some ⟨b, 0, none⟩)))), (1, .g (.s (.int .i64 (n)))), (5, .row 5 0 (out.length)), (6, .g (.s (.int .i64 (i)))), (7, .ref 7 []), (8, .g (.s (.int .i64 (p))))], [(5, .row 51 2 (gChild zChild) (out.map gChild)), (7, .box (gTreeNode t))], [], PH.no⟩)
        (fun p => p ≤ out.length ∧ ∀ j, j < p → leB (out.getD j zChild).name t.name = true) (fun p => out.length - p) 0 ⟨by omega, by omega⟩ (ge_of ?_ ?_ rfl rfl rfl) ?_
      · simp [frIn, look]
      · simp [pvIn, look]
      rintro p ⟨hp, hj⟩
      generalize hQ2 : loopQ _ _ _ _ _ = Q2
      have fin : ∀ x : SV, rchildL (l.take (i + 1)) n = out.take p ++ ⟨t.name, t.node⟩ :: out.drop p → Q2 (.exit 2) ⟨[(0, .g (.s (.pointer (some ⟨b, 0, none⟩)))), (1, .g (.s (.int .i64 (n)))), (5, .row 5 0 (out.length)), (6, .g (.s (.int .i64 (i)))), (7, .ref 7 []), (8, .g (.s (.int .i64 (p)))), (48, x)], [(5, .row 51 2 (gChild zChild) (out.map gChild)), (7, .box (gTreeNode t))], [], PH.no⟩ := by
        intro x he
        subst hQ2
        simp (maxSteps := 2000000) only [vc_seq, vc_rg, thenQ_n, blockQ_e, loopQ_e, segs_n, ops_cons, vcOp, ev, look, put_mk, rowE, bndN, Value.oneCell', cond_true, Nat.reduceEqDiff, ↓reduceIte, reduceCtorEq, Nat.add_zero, Bool.true_and, true_and, Int.toNat_natCast, List.drop_zero]
        refine ⟨⟨by omega, by omega, by omega⟩, app_nil rfl rfl (by omega) ?_⟩
        simp (maxSteps := 2000000) only [Nat.sub_zero, List.length_take, List.length_map, List.length_append, List.length_cons, List.length_nil, vc_seq, vc_rg, thenQ_n, kKeep_eq, segs_nil, segs_n, ops_nil, ops_cons, vcOp, ev, evL, gvL, look, updL, put_mk, keep_mk, keepL, rowE, bndN, GV.getT, GV.same, cond_true, cond_false, Nat.reduceEqDiff, Nat.reduceBEq, ↓reduceIte, reduceCtorEq, List.nil_append, Nat.zero_add, Bool.and_true, Bool.true_and, Bool.not_false, BEq.rfl, true_and, and_true, List.map_cons, List.map_nil, Option.map_some, szAll, List.length_cons, List.length_nil, Int.toNat_natCast, kill, SV.mentions, ne_eq, not_false_eq_true, List.drop_zero, List.take_succ_cons, List.take_zero, GV.bldT, GV.bldC, same_int, getT_nil, List.length_map, fits_s, gTreeNode_fld0, gTreeNode_get0, gTreeNode_fld2, gTreeNode_get2, gChild_sz, gChild_get0, gChild_set0, gChild_get1, gChild_set1]
        refine ⟨⟨rfl, rfl⟩, by omega, by omega, ⟨by omega, by omega, by omega⟩, by omega, by omega, ?_⟩
        refine gh_pub 67 54 (p + 1 + (out.length - p)) rfl rfl (by simp only [List.length_append, List.length_map, List.length_cons, List.length_nil, List.length_take, List.length_drop]; omega) fun v' u' hv' hS' hd' => ?_
        have eR : List.take p (List.map gChild out) ++ [gChild ⟨t.name, t.node⟩] ++ List.take (out.length - p) (List.drop p (List.map gChild out)) = (rchildL (l.take (i + 1)) n).map gChild := by
          rw [he, List.take_of_length_le (l := List.drop p (List.map gChild out)) (by simp), ← List.map_take, ← List.map_drop, List.map_append, List.map_cons, List.append_assoc]
          rfl
        rw [eR] at hS'
        simp (maxSteps := 2000000) only [vc_rg, thenQ_n, blockQ_n, kKeep_eq, segs_nil, segs_n, ops_nil, ops_cons, vcOp, ev, look, put_mk, keep_mk, keepL, binV, binC, Value.oneCell', cond_true, cond_false, Nat.reduceEqDiff, Nat.reduceBEq, ↓reduceIte, reduceCtorEq, Bool.true_and, BEq.rfl, true_and, kill, SV.mentions]
        rw [uni_no_r]
        subst hQ; simp only [loopQ_n]
        refine ⟨(i + 1, v', u'), ⟨by simp only; omega, hS'⟩, by simp only; omega, ge_of ?_ ?_ rfl rfl rfl⟩
        · simp only [frIn, look, Nat.reduceEqDiff, ↓reduceIte, reduceCtorEq, Bool.and_true, Bool.true_and, true_and, and_true]
          rw [wrap_n (by omega)]
          try simp
        · simp [pvIn, look]
      simp (maxSteps := 2000000) only [c_ref12_Tree_Children_L0, vc_skip, vc_exit, vc_seq, vc_block, vc_rg, vc_rgq, vc_ite, thenQ_n, thenQ_e, blockQ_n, kKeep_eq, segs_nil, segs_n, segs_g, ops_nil, ops_cons, qsegs_nil, qsegs_n, qsegs_g, qops_nil, qops_cons, vcqOp, vcOp, isRd, RO.isGh, skip_mk, skipL, ev, look, put_mk, keep_mk, keepL, rowE, rowD, binV, binC, GV.getT, Value.oneCell', cond_true, cond_false, Nat.reduceEqDiff, ↓reduceIte, reduceCtorEq, List.nil_append, Nat.zero_add, Bool.true_and, Bool.not_true, Bool.not_false, true_and, Int.toNat_natCast, decide_eq_true_eq, decide_eq_false_iff_not, ↓br_tt, ↓br_ft, br_t, getT_nil, fits_s, gTreeNode_fld2, gTreeNode_get2, gChild_fld0, gChild_get0, getD_gChild]
      refine ⟨fun h3 => ⟨⟨by omega, by omega⟩, fun h4 => ?_, fun h4 => ?_⟩, fun h3 => ?_⟩
      · subst hQ2; simp only [loopQ_n]; refine ⟨p + 1, ⟨by omega, fun j hj2 => ?_⟩, by omega, ge_of ?_ ?_ rfl rfl rfl⟩
        · rcases Nat.lt_succ_iff_lt_or_eq.1 hj2 with h5 | rfl
          · exact hj j h5
          · exact h4
        · simp only [frIn, look, Nat.reduceEqDiff, ↓reduceIte, reduceCtorEq, Bool.and_true, Bool.true_and, true_and, and_true]
          rw [wrap_n (by omega)]
          try simp
        · simp [pvIn, look]
      · exact fin _ (by rw [hsn]; exact insC_at hj hp fun _ => h4)
      · exact fin _ (by rw [hsn]; exact insC_at hj hp fun h5 => absurd h3 (by omega))
    · have h1 : t.parent ≠ n := by simpa using h1
      rw [if_neg (fun hh => by omega)] at hsn
      subst hQ; simp only [loopQ_n]; refine ⟨(i + 1, v, mv), ?_, ?_, ge_of ?_ ?_ rfl rfl rfl⟩
      · exact ⟨by simp only; omega, by simp only; rw [hsn]; exact hS⟩
      · simp only; omega
      · simp only [frIn, look, Nat.reduceEqDiff, ↓reduceIte, reduceCtorEq, Bool.and_true, Bool.true_and, true_and, and_true]
        rw [wrap_n (by omega)]
        try simp
      · simp [pvIn, look]
  · subst hQ
    simp (maxSteps := 2000000) only [vc_ret, vc_seq, vc_rg, thenQ_n, blockQ_e, kKeep_eq, loopQ_e, finQ_r, segs_nil, segs_n, ops_nil, ops_cons, vcOp, ev, look, put_mk, keep_mk, keepL, Nat.reduceEqDiff, ↓reduceIte, reduceCtorEq]
    have hit : l.take i = l := List.take_of_length_le (by omega)
    rw [hit] at hS
    exact fin_m (rs := [.s v]) _ rfl (fun _ _ h => h) ⟨v, rfl, hS⟩
end Go.Proofs.YtnoeabmpdjpfaaaGreatDoor.Vc

/- Of, to the byte. -/
set_option linter.unusedVariables false
set_option linter.unusedSimpArgs false
set_option maxRecDepth 100000
namespace Go.Proofs.YtnoeabmpdjpfaaaGreatDoor.Vc
open Go Go.Proofs

/-- What Of tells, exactly. -/
def OfA (T : PT) (n : Int) (s : ByteArray) (e : Int) : Prop := (T.get n = none → s = ⟨#[]⟩ ∧ e = 4) ∧ ∀ x, T.get n = some x → (T.below n 2 = true → s = ⟨#[]⟩ ∧ e = 201) ∧ (T.below n 2 = false → ∀ l, Way T l n → s = Pa.mkS (Pa.joinA (namesW T l)).1 ∧ e = (Pa.joinA (namesW T l)).2)
theorem OfA.uniq {T : PT} {k : Nat} (hok : T.ok k) (hg : VGood T.view) {n : Int} {s s' : ByteArray} {e e' : Int} (h : OfA T n s e) (h' : OfA T n s' e') : s = s' ∧ e = e' := by
  cases hx : T.get n with
  | none =>
    obtain ⟨a, b⟩ := h.1 hx
    obtain ⟨a', b'⟩ := h'.1 hx
    exact ⟨a.trans a'.symm, b.trans b'.symm⟩
  | some x =>
    cases hb : T.below n 2 with
    | true =>
      obtain ⟨a, b⟩ := (h.2 x hx).1 hb
      obtain ⟨a', b'⟩ := (h'.2 x hx).1 hb
      exact ⟨a.trans a'.symm, b.trans b'.symm⟩
    | false =>
      obtain ⟨l, _, hl⟩ := way_at hok hg (show T.has n = true by rw [PT.has, hx]; rfl) hb
      obtain ⟨a, b⟩ := (h.2 x hx).2 hb l hl
      obtain ⟨a', b'⟩ := (h'.2 x hx).2 hb l hl
      exact ⟨a.trans a'.symm, b.trans b'.symm⟩
theorem joinA_way {T : PT} (hg : VGood T.view) {l : List Int} {n : Int} (h : Way T l n) : (l.length ≤ 64 → Pa.joinA (namesW T l) = (Pa.joinS (namesW T l), 0)) ∧ (64 < l.length → Pa.joinA (namesW T l) = ([], 3)) := by
  refine ⟨fun hl => ?_, fun hl => ?_⟩
  · rw [Pa.joinA, if_pos (h.wrong hg hl)]
  · have hw : Pa.wrongA (namesW T l) = 3 := by
      unfold Pa.wrongA
      rw [if_pos, if_pos (by rw [namesW_len]; omega)]
      rw [List.all_eq_true]
      intro x hx
      obtain ⟨m, hm, rfl⟩ := List.mem_map.1 (List.mem_reverse.1 hx)
      exact h.name hg hm
    rw [Pa.joinA, hw, if_neg (by decide)]
section
variable {w : World} {u : PH} {L : Lay} {T : PT} {k : Nat}
theorem OfX_spec (hu : u.le w) (hT : TM u L T) (n : Int) (hok : T.ok k) (hk' : k ≤ 1099511627776) (hg : VGood T.view) :
    Spec Tryz.prog f_path_Of [ptr (L .t), .int .i64 n] PH.no w fun rs _ => ∃ s e, rs = [.s (.string s), .s (.int .i64 e)] ∧ OfA T n s e := by
  refine spec_val k_path_Of (Qf := fun rs => ∃ s e, rs = [.s (.string s), .s (.int .i64 e)] ∧ OfA T n s e) [.g (.s (ptr (L .t))), .g (.s (.int .i64 n))] (by simp) (by simp [AV.ok, GV.ok, Value.oneCell', ptr]) ?_
  have hm := hok.many
  have hsm : ∀ n x, T.get n = some x → x.small := (ok_tells hok hk').small
  have hl0 : T.nodes.length ≠ 0 := fun e => by
    obtain ⟨a, ha⟩ := Option.ne_none_iff_exists'.1 hg.one
    obtain ⟨y, hy, _⟩ := get_of_view ha
    have := getA_mem hy
    rw [List.length_eq_zero_iff.1 e] at this
    cases this
  have h2 : T.has 2 = true := has_iff.2 hg.two
  have node : ∀ (w' : World), (⟨Tryz.prog, 46, w, PH.no⟩ : Ctx).u0.le w' → ∀ (c : Int) (x : PN), T.get c = some x → Spec Tryz.prog f_tree_Tree_Node [ptr (L .t), .int .i64 c] PH.no w' fun rs _ => ∃ v, rs = [gTreeNode ⟨c, x.parent, x.name, v⟩, .s (.bool true)] := fun w' hw c x hx =>
    (Node_spec (fun b o h => hw b o (by rw [u0_no]; exact hu b o h)) hT c (hsm c)).mono fun rs m' h => by
      obtain ⟨v, e, _⟩ := h.2 x hx
      exact ⟨v, e⟩
  simp (maxSteps := 2000000) only [c_path_Of, vc_seq, vc_rg, thenQ_n, kKeep_eq, segs_nil, segs_n, ops_nil, ops_cons, vcOp, ev, look, put_mk, keep_mk, keepL, Value.oneCell', cond_true, Nat.reduceEqDiff, ↓reduceIte, reduceCtorEq, Nat.zero_add, initF, initP, gTreeNode_zero, ptr]
  refine call_is _ [.s (.int .i64 T.nodes.length)] rfl rfl (fun w' vs hv hw => ?_) ?_
  · obtain ⟨vs, rfl, _, hv⟩ := argsV_g hv
    obtain rfl := argsV_nil hv
    intro _
    exact Len_spec (fun b o h => hw b o (by rw [u0_no]; exact hu b o h)) hT
  simp (maxSteps := 2000000) only [retS, vc_skip, vc_ret, vc_seq, vc_rg, vc_ite, thenQ_n, thenQ_r, kKeep_eq, segs_nil, segs_n, ops_nil, ops_cons, vcOp, ev, look, put_mk, keep_mk, keepL, binV, binC, Value.oneCell', cond_true, Nat.reduceEqDiff, ↓reduceIte, reduceCtorEq, Bool.true_and, true_and, finW_r, resL, resOne, br_t]
  refine ⟨fun h => absurd (by simpa using h) hl0, fun _ => ?_⟩
  cases hx : T.get n with
  | none =>
    refine call_val (dOk_spec rfl) rfl (Q := fun rs m' => rs = [gTreeNode zTreeNode, .s (.bool false)]) (fun w' vs hv hw _ => ?_) fun rs m1 hrs hq => ?_
    · obtain ⟨vs, rfl, _, hv⟩ := argsV_g hv
      obtain ⟨vs, rfl, _, hv⟩ := argsV_g hv
      obtain rfl := argsV_nil hv
      exact (Node_spec (fun b o h => hw b o (by rw [u0_no]; exact hu b o h)) hT n (hsm n)).mono fun rs m' h => h.1 hx
    subst hq
    simp (maxSteps := 2000000) only [retS, List.getElem?_cons_zero, List.getElem?_cons_succ, vc_ret, vc_seq, vc_rg, vc_ite, thenQ_n, thenQ_r, kKeep_eq, segs_nil, segs_n, ops_nil, ops_cons, vcOp, ev, look, updL, put_mk, put_mk0, keep_mk, keepL, unV, Value.oneCell', cond_true, Nat.reduceEqDiff, ↓reduceIte, reduceCtorEq, Bool.and_true, Bool.true_and, Bool.not_false, true_and, and_true, finW_r, resL, resOne, ↓br_tt, getT_nil, setT_nil, gTreeNode_sz, gTreeNode_same]
    exact ⟨_, _, rfl, fun _ => ⟨rfl, rfl⟩, (fun x h => by rw [hx] at h; cases h)⟩
  | some x =>
  have hn : T.has n = true := by rw [PT.has, hx]; rfl
  refine call_val (dOk_spec rfl) rfl (Q := fun rs m' => ∃ v, rs = [gTreeNode ⟨n, x.parent, x.name, v⟩, .s (.bool true)]) (fun w' vs hv hw _ => ?_) fun rs m1 hrs hq => ?_
  · obtain ⟨vs, rfl, _, hv⟩ := argsV_g hv
    obtain ⟨vs, rfl, _, hv⟩ := argsV_g hv
    obtain rfl := argsV_nil hv
    exact node w' hw n x hx
  obtain ⟨v0, rfl⟩ := hq
  simp (maxSteps := 2000000) only [retS, List.getElem?_cons_zero, List.getElem?_cons_succ, vc_skip, vc_seq, vc_rg, vc_ite, thenQ_n, kKeep_eq, segs_nil, segs_n, ops_nil, ops_cons, vcOp, ev, look, updL, put_mk, put_mk0, keep_mk, keepL, unV, Nat.reduceEqDiff, ↓reduceIte, reduceCtorEq, Bool.and_true, Bool.true_and, Bool.not_true, true_and, and_true, ↓br_ft, getT_nil, setT_nil, gTreeNode_sz, gTreeNode_same]
  refine call_is _ [.s (.bool (T.below n 2))] rfl rfl (fun w' vs hv hw => ?_) ?_
  · obtain ⟨vs, rfl, _, hv⟩ := argsV_g hv
    obtain ⟨vs, rfl, _, hv⟩ := argsV_g hv
    obtain ⟨vs, rfl, _, hv⟩ := argsV_g hv
    obtain rfl := argsV_nil hv
    intro _
    have := BelowX_spec (fun b o h => hw b o (by rw [u0_no]; exact hu b o h)) hT n 2 (by omega)
    rwa [hn, h2, Bool.true_and, Bool.true_and] at this
  simp (maxSteps := 2000000) only [retS, vc_skip, vc_ret, vc_seq, vc_block, vc_rg, vc_ite, thenQ_n, thenQ_r, kKeep_eq, segs_nil, segs_n, ops_nil, ops_cons, vcOp, ev, look, put_mk, keep_mk, keepL, Value.oneCell', cond_true, Nat.reduceEqDiff, ↓reduceIte, reduceCtorEq, finW_r, resL, resOne, br_t]
  refine ⟨fun hb => ⟨_, _, rfl, (fun h => by rw [hx] at h; cases h), fun _ _ => ⟨fun _ => ⟨rfl, rfl⟩, (fun h => by rw [hb] at h; cases h)⟩⟩, fun hb => ?_⟩
  obtain ⟨l, hll, hl⟩ := way_at hok hg hn hb
  refine vc_loop (ι := List Int × List Int × Int × Value × PH) (fun q => ⟨[(0, .g (.s (.pointer (some ⟨L .t, 0, none⟩)))), (1, .g (.s (.int .i64 (q.2.2.1)))), (8, .g (.s q.2.2.2.1))], [], [], q.2.2.2.2⟩)
    (fun q => q.1 ++ q.2.1 = l ∧ q.1.length ≤ 64 ∧ Way T q.2.1 q.2.2.1 ∧ SlO q.2.2.2.2 q.2.2.2.1 9 1 ((namesW T q.1).map Pa.gN)) (fun q => q.2.1.length) ([], l, n, .slice none 0 0, PH.no) ⟨rfl, by simp, hl, ⟨fun x hx => by simp [namesW] at hx, .inl ⟨rfl, by simp [namesW]⟩⟩⟩ (ge_of ?_ ?_ rfl rfl rfl) ?_
  · simp [frIn, look]
  · simp [pvIn, look]
  rintro ⟨done, rest, cur, vN, mN⟩ ⟨hdr, hd, hW, hS⟩
  simp only at hdr hd hW hS
  generalize hQ : loopQ _ _ _ _ _ = Q
  simp (maxSteps := 2000000) only [c_path_Of_L0, vc_skip, vc_exit, vc_seq, vc_block, vc_rg, vc_ite, thenQ_n, thenQ_e, kKeep_eq, segs_nil, segs_n, ops_nil, ops_cons, vcOp, ev, look, put_mk, keep_mk, keepL, binV, binC, Value.oneCell', cond_true, Nat.reduceEqDiff, ↓reduceIte, reduceCtorEq, Bool.true_and, true_and, br_t, gTreeNode_zero]
  refine ⟨fun hc => ?_, fun hc => ?_⟩
  · cases rest with
    | nil => exact absurd (show cur = 1 from hW) (by simpa using hc)
    | cons m rest =>
      obtain ⟨rfl, htc, y, hy, hW'⟩ := hW
      refine call_val (dOk_spec rfl) rfl (Q := fun rs m' => ∃ v, rs = [gTreeNode ⟨cur, y.parent, y.name, v⟩, .s (.bool true)]) (fun w' vs hv hw _ => ?_) fun rs m1 hrs hq => ?_
      · obtain ⟨vs, rfl, _, hv⟩ := argsV_g hv
        obtain ⟨vs, rfl, _, hv⟩ := argsV_g hv
        obtain rfl := argsV_nil hv
        exact node w' hw cur y hy
      obtain ⟨v1, rfl⟩ := hq
      simp (maxSteps := 2000000) only [retS, List.getElem?_cons_zero, List.getElem?_cons_succ, vc_seq, vc_rg, thenQ_n, kKeep_eq, segs_nil, segs_n, ops_nil, ops_cons, vcOp, ev, evL, gvL, look, updL, put_mk, put_mk0, keep_mk, keepL, GV.getT, GV.sz, Nat.reduceEqDiff, ↓reduceIte, reduceCtorEq, List.nil_append, Nat.zero_add, Bool.and_true, Bool.true_and, Bool.not_false, true_and, and_true, Option.map_some, szAll, List.length_cons, List.length_nil, getT_nil, setT_nil, fits_s, gTreeNode_sz, gTreeNode_same, gTreeNode_fld2, gTreeNode_get2]
      refine gh_own 36 36 (.s (.string ⟨#[]⟩)) rfl rfl hS (uni_no_r _).symm (dis_no_r _) ?_
      simp (maxSteps := 2000000) only [ops_cons, vcOp, ev, look, updL, put_mk, rowE, cond_true, cond_false, Nat.reduceEqDiff, Nat.reduceBEq, ↓reduceIte, List.nil_append, List.cons_append, Nat.zero_add, Bool.and_true, Bool.true_and, BEq.rfl, true_and, and_true, List.length_cons, List.length_nil, kill, SV.mentions, ne_eq, not_false_eq_true, List.drop_zero, List.length_map]
      refine ⟨by rw [namesW_len]; omega, ?_⟩
      refine gh_pub 37 35 (1 + (namesW T done).length) rfl rfl (by simp; omega) fun v' u' hv' hS' hd' => ?_
      have eN : namesW T (done ++ [cur]) = nameL T cur :: namesW T done := by simp [namesW]
      have eS : GV.s (Value.string y.name) :: ((namesW T done).map Pa.gN).take (namesW T done).length = (namesW T (done ++ [cur])).map Pa.gN := by
        rw [eN, List.map_cons, List.take_of_length_le (by simp), Pa.gN, nameL_mk hy]
      rw [eS] at hS'
      rcases Pa.names_shape hS'.toR with ⟨h3, _⟩ | ⟨h3, b', o', c', h4, h5, _⟩
      · rw [eN] at h3; cases h3
      have h6 : (namesW T (done ++ [cur])).length = done.length + 1 := by rw [namesW_len]; simp
      rw [h6] at h4
      subst h4
      simp (maxSteps := 2000000) only [vc_skip, vc_ret, vc_seq, vc_rg, vc_ite, thenQ_n, blockQ_n, blockQ_r, kKeep_eq, segs_nil, segs_n, ops_nil, ops_cons, vcOp, ev, look, put_mk, keep_mk, keepL, binV, binC, Value.oneCell', cond_true, cond_false, Nat.reduceEqDiff, Nat.reduceBEq, ↓reduceIte, reduceCtorEq, List.nil_append, Bool.true_and, BEq.rfl, true_and, decide_eq_true_eq, decide_eq_false_iff_not, kill, SV.mentions, br_t, getT_nil]
      refine ⟨rfl, rfl, ?_⟩
      rw [uni_no_r, show (gTreeNode ⟨cur, y.parent, y.name, v1⟩).getT [1] = .s (.int .i64 y.parent) from rfl]
      have hll' : (done ++ [cur]).length + rest.length = l.length := by rw [← hdr]; simp; omega
      refine ⟨fun hg64 => ?_, fun hg64 => ?_⟩
      · subst hQ
        simp (maxSteps := 2000000) only [thenQ_r, blockQ_r, loopQ_r, look, Nat.reduceEqDiff, ↓reduceIte, finW_r, resL, resOne]
        refine ⟨_, _, rfl, (fun h => by rw [hx] at h; cases h), fun _ _ => ⟨(fun h => by rw [hb] at h; cases h), fun _ l' hl' => ?_⟩⟩
        have := hl.eq hl'
        subst this
        simp only [List.length_append, List.length_cons, List.length_nil] at hll'
        rw [(joinA_way hg hl).2 (by omega)]
        exact ⟨rfl, rfl⟩
      · subst hQ; simp only [loopQ_n]; refine ⟨(done ++ [cur], rest, y.parent, .slice (some ⟨b', o', none⟩) (done.length + 1) c', u'), ?_, ?_, ge_of ?_ ?_ rfl rfl rfl⟩
        · exact ⟨by simp [← hdr], by simp only [List.length_append, List.length_cons, List.length_nil]; omega, hW', hS'⟩
        · simp only [List.length_cons]; omega
        · simp only [frIn, look, Nat.reduceEqDiff, ↓reduceIte, reduceCtorEq, Bool.and_true, and_true]
          try simp
        · simp [pvIn, look]
  · subst hQ
    simp (maxSteps := 2000000) only [vc_seq, vc_rg, thenQ_n, blockQ_e, loopQ_e, segs_n, ops_cons, vcOp, ev, look, put_mk, Nat.reduceEqDiff, ↓reduceIte, reduceCtorEq]
    have hc1 : cur = 1 := by simpa using hc
    subst hc1
    have hr : rest = [] := by
      cases rest with
      | nil => rfl
      | cons m rest => exact absurd hW.2.1 (by decide)
    subst hr
    rw [List.append_nil] at hdr
    subst hdr
    obtain ⟨hlen, hsz⟩ := namesW_sum hg hl
    have hsum : ((namesW T done).map List.length).sum + (namesW T done).length ≤ 140737488355328 := by
      have := Pa.sumL_le (ns := namesW T done) fun x hx => by
        obtain ⟨m, hm, rfl⟩ := List.mem_map.1 (List.mem_reverse.1 hx)
        exact hl.name hg hm
      unfold Pa.sumL at this
      omega
    refine call_ism _ [.s (.string (Pa.mkS (Lib.join (namesW T done) [47])))] rfl rfl (fun w' vs hv _ _ hm => ?_) ?_
    · obtain ⟨vs, rfl, _, hv⟩ := argsV_g hv
      obtain ⟨vs, rfl, _, hv⟩ := argsV_g hv
      obtain rfl := argsV_nil hv
      exact Pa.Join_spec w' vN (namesW T done) hsum mN hm hS.toR
    simp (maxSteps := 2000000) only [retS, vc_ret, thenQ_n, kKeep_eq, segs_nil, ops_nil, ops_cons, vcOp, ev, look, put_mk, keep_mk, keepL, binV, binC, Value.oneCell', cond_true, Nat.reduceEqDiff, ↓reduceIte, finW_r, resL, resOne]
    have hjl := Pa.join_len (namesW T done)
    refine ⟨?_, _, _, rfl, fun h => (by rw [hx] at h; cases h), fun _ _ => ⟨fun h => (by rw [hb] at h; cases h), fun _ l' hl' => ?_⟩⟩
    · rw [Pa.mkS_size, show (⟨#[47]⟩ : ByteArray).size = 1 from rfl]
      omega
    have := hl.eq hl'
    subst this
    rw [(joinA_way hg hl).1 (by omega)]
    refine ⟨?_, rfl⟩
    rw [show (⟨#[47]⟩ : ByteArray) = Pa.mkS [47] from rfl, Pa.mkS_app]
    rfl
end
end Go.Proofs.YtnoeabmpdjpfaaaGreatDoor.Vc

/- The reference's List, Attrs, Of. -/
set_option linter.unusedVariables false
set_option linter.unusedSimpArgs false
set_option maxRecDepth 100000
namespace Go.Proofs.YtnoeabmpdjpfaaaGreatDoor.Vc
open Go Go.Proofs

section
variable {w : World} {A m : PH} {b : Nat} {l : List TN} {ls : List (List TN)}
theorem rList_spec (hm : m.le w) (hA : A.le w) (h : RM A m b l ls) (hL : LOk l) (hg : VGood (viewL l)) (hl : l.length ≤ 1099511627776) (p : List UInt8) (hp : p.length < 4294967281) :
    Spec Tryz.prog f_ref20_List [ptr b, .string (Pa.mkS p)] PH.no w fun rs m' => ∃ v g e, RresX (viewL l) p [.s (.int .i64 g), .s (.int .i64 e)] ∧ rs = [.s v, .s (.int .i64 e)] ∧ SlO m' v 51 2 ((if e = 0 then rchildL l g else []).map gChild) := by
  refine spec_of k_ref20_List [.g (.s (ptr b)), .g (.s (.string (Pa.mkS p)))] (by simp) (by simp [AV.ok, GV.ok, Value.oneCell', ptr]) ?_
  simp (maxSteps := 2000000) only [c_ref20_List, vc_seq, vc_rg, thenQ_n, kKeep_eq, segs_nil, segs_n, ops_nil, ops_cons, vcOp, ev, look, put_mk, keep_mk, keepL, Value.oneCell', cond_true, Nat.reduceEqDiff, ↓reduceIte, reduceCtorEq, Nat.zero_add, initF, initP, ptr]
  refine call_val (dOk_spec rfl) rfl (Q := fun rs _ => RresX (viewL l) p rs) (fun w' vs hv hw hph => ?_) fun rs m4 _ hq => ?_
  · obtain ⟨vs, rfl, _, hv⟩ := argsV_g hv
    obtain ⟨vs, rfl, _, hv⟩ := argsV_g hv
    obtain rfl := argsV_nil hv
    exact rResolve_spec w' A m (fun b o h => hw b o (by rw [u0_no]; exact hm b o h)) b l ls h (fun b o h => hw b o (by rw [u0_no]; exact hA b o h)) hL hg hl p hp
  obtain ⟨g, e, rfl, hres⟩ := hq
  have hres : RresX (viewL l) p [.s (.int .i64 g), .s (.int .i64 e)] := ⟨g, e, rfl, hres⟩
  simp (maxSteps := 2000000) only [retS, List.getElem?_cons_zero, List.getElem?_cons_succ, vc_skip, vc_ret, vc_seq, vc_rg, vc_ite, thenQ_n, thenQ_r, kKeep_eq, finQ_r, segs_nil, segs_n, ops_nil, ops_cons, vcOp, ev, look, put_mk, keep_mk, keepL, binV, binC, Value.oneCell', cond_true, Nat.reduceEqDiff, ↓reduceIte, reduceCtorEq, Bool.true_and, true_and, br_t]
  refine ⟨fun hne => ?_, fun he => ?_⟩
  · have hne : e ≠ 0 := by simpa using hne
    exact fin_m (rs := [.s (.slice none 0 0), .s (.int .i64 e)]) PH.no rfl (fun _ _ h => h) ⟨_, _, _, hres, rfl, by rw [if_neg hne]; exact ⟨fun x hx => by simp at hx, .inl ⟨rfl, rfl⟩⟩⟩
  have he : e = 0 := by simpa using he
  subst he
  refine call_ownm rfl rfl (Q := fun rs m' => ∃ v, rs = [.s v] ∧ SlO m' v 51 2 ((rchildL l g).map gChild)) (fun w' vs hv hw _ _ => ?_) fun rs m1 _ hq _ => ?_
  · obtain ⟨vs, rfl, _, hv⟩ := argsV_g hv
    obtain ⟨vs, rfl, _, hv⟩ := argsV_g hv
    obtain rfl := argsV_nil hv
    exact rChildren_spec w' A m (fun b o h => hw b o (by rw [u0_no]; exact hm b o h)) b l ls h g hl
  obtain ⟨v, rfl, hv⟩ := hq
  simp (maxSteps := 2000000) only [retS, uni_no_r, vc_ret, thenQ_n, kKeep_eq, finQ_r, segs_nil, ops_nil, ops_cons, vcOp, ev, look, put_mk, keep_mk, keepL, Value.oneCell', cond_true, Nat.reduceEqDiff, ↓reduceIte]
  exact fin_m (rs := [.s v, .s (.int .i64 0)]) _ rfl (fun _ _ h => h) ⟨v, g, 0, hres, rfl, by rw [if_pos rfl]; exact hv⟩
theorem rAttrs20_spec (hm : m.le w) (hA : A.le w) (h : RM A m b l ls) (hL : LOk l) (hg : VGood (viewL l)) (hl : l.length ≤ 1099511627776) (hs : ∀ t ∈ l, t.attrs.length ≤ 1099511627776) (p : List UInt8) (hp : p.length < 4294967281) :
    Spec Tryz.prog f_ref20_Attrs [ptr b, .string (Pa.mkS p)] PH.no w fun rs m' => ∃ v g e, RresX (viewL l) p [.s (.int .i64 g), .s (.int .i64 e)] ∧ rs = [.s v, .s (.int .i64 e)] ∧ (e ≠ 0 → SlR m' v 2 ([] : List GV)) ∧ (e = 0 → ∀ r, getL l g = some r → SlR m' v 2 (r.attrs.map gAttr)) := by
  refine spec_of k_ref20_Attrs [.g (.s (ptr b)), .g (.s (.string (Pa.mkS p)))] (by simp) (by simp [AV.ok, GV.ok, Value.oneCell', ptr]) ?_
  simp (maxSteps := 2000000) only [c_ref20_Attrs, vc_seq, vc_rg, thenQ_n, kKeep_eq, segs_nil, segs_n, ops_nil, ops_cons, vcOp, ev, look, put_mk, keep_mk, keepL, Value.oneCell', cond_true, Nat.reduceEqDiff, ↓reduceIte, reduceCtorEq, Nat.zero_add, initF, initP, ne_eq, gTreeNode_zero, ptr]
  refine call_val (dOk_spec rfl) rfl (Q := fun rs _ => RresX (viewL l) p rs) (fun w' vs hv hw hph => ?_) fun rs m4 _ hq => ?_
  · obtain ⟨vs, rfl, _, hv⟩ := argsV_g hv
    obtain ⟨vs, rfl, _, hv⟩ := argsV_g hv
    obtain rfl := argsV_nil hv
    exact rResolve_spec w' A m (fun b o h => hw b o (by rw [u0_no]; exact hm b o h)) b l ls h (fun b o h => hw b o (by rw [u0_no]; exact hA b o h)) hL hg hl p hp
  obtain ⟨g, e, rfl, hres⟩ := hq
  have hres : RresX (viewL l) p [.s (.int .i64 g), .s (.int .i64 e)] := ⟨g, e, rfl, hres⟩
  simp (maxSteps := 2000000) only [retS, List.getElem?_cons_zero, List.getElem?_cons_succ, vc_skip, vc_ret, vc_seq, vc_rg, vc_ite, thenQ_n, thenQ_r, kKeep_eq, finQ_r, segs_nil, segs_n, ops_nil, ops_cons, vcOp, ev, look, put_mk, keep_mk, keepL, binV, binC, Value.oneCell', cond_true, Nat.reduceEqDiff, ↓reduceIte, reduceCtorEq, Bool.true_and, true_and, br_t]
  refine ⟨fun hne => ?_, fun he => ?_⟩
  · have hne : e ≠ 0 := by simpa using hne
    exact fin_m (rs := [.s (.slice none 0 0), .s (.int .i64 e)]) PH.no rfl (fun _ _ h => h) ⟨_, _, _, hres, rfl, fun _ => ⟨fun x hx => by simp at hx, .inl ⟨rfl, rfl⟩⟩, fun h => absurd h hne⟩
  have he : e = 0 := by simpa using he
  subst he
  refine call_ownm rfl rfl (Q := fun rs m' => RNodeQ l g rs m') (fun w' vs hv hw _ _ => ?_) fun rs m1 _ hq _ => ?_
  · obtain ⟨vs, rfl, _, hv⟩ := argsV_g hv
    obtain ⟨vs, rfl, _, hv⟩ := argsV_g hv
    obtain rfl := argsV_nil hv
    exact rNode_spec w' A m (fun b o h => hw b o (by rw [u0_no]; exact hm b o h)) (fun b o h => hw b o (by rw [u0_no]; exact hA b o h)) b l ls h g hl hs
  obtain ⟨t, rfl, h1, h2⟩ := hq
  simp (maxSteps := 2000000) only [retS, uni_no_r, List.getElem?_cons_zero, List.getElem?_cons_succ, vc_ret, vc_seq, vc_rg, thenQ_n, kKeep_eq, finQ_r, segs_nil, segs_n, ops_nil, ops_cons, vcOp, ev, look, updL, put_mk, put_mk0, keep_mk, keepL, GV.getT, Value.oneCell', cond_true, Nat.reduceEqDiff, ↓reduceIte, List.nil_append, Bool.and_true, Bool.true_and, Bool.not_false, true_and, and_true, getT_nil, setT_nil, fits_s, gTreeNode_sz, gTreeNode_same, gTreeNode_fld3, gTreeNode_get3]
  exact fin_m (rs := [.s t.attrs, .s (.int .i64 0)]) _ rfl (fun _ _ h => h) ⟨t.attrs, g, 0, hres, rfl, fun h => absurd rfl h, fun _ r hr => (h2 r hr).2.2.2⟩

theorem rOf_spec (hm : m.le w) (hA : A.le w) (h : RM A m b l ls) (hL : LOk l) {T : PT} {k : Nat} (hvl : viewL l = T.view) (hok : T.ok k) (hk' : k ≤ 1048576) (hg : VGood T.view) (hl : l.length ≤ 1099511627776) (hs : ∀ t ∈ l, t.attrs.length ≤ 1099511627776) (n : Int) :
    Spec Tryz.prog f_ref20_Of [ptr b, .int .i64 n] PH.no w fun rs _ => ∃ s e, rs = [.s (.string s), .s (.int .i64 e)] ∧ OfA T n s e := by
  refine spec_val k_ref20_Of (Qf := fun rs => ∃ s e, rs = [.s (.string s), .s (.int .i64 e)] ∧ OfA T n s e) [.g (.s (ptr b)), .g (.s (.int .i64 n))] (by simp) (by simp [AV.ok, GV.ok, Value.oneCell', ptr]) ?_
  have hmany := hok.many
  have hgl : VGood (viewL l) := by rw [hvl]; exact hg
  have node : ∀ (w' : World), (⟨Tryz.prog, 41, w, PH.no⟩ : Ctx).u0.le w' → ∀ (c : Int), Spec Tryz.prog f_ref12_Tree_Node [ptr b, .int .i64 c] PH.no w' fun rs m' => RNodeQ l c rs m' := fun w' hw c =>
    rNode_spec w' A m (fun b o h => hw b o (by rw [u0_no]; exact hm b o h)) (fun b o h => hw b o (by rw [u0_no]; exact hA b o h)) b l ls h c hl hs
  have two : ∀ {c : Int} {x : PN}, T.get c = some x → ∃ r, getL l c = some r ∧ r.parent = x.parent ∧ r.name = x.name := fun {c x} hx => by
    have hvn : viewL l c = T.view c := congrFun hvl c
    rw [PT.view_get hx, viewL] at hvn
    cases hr : getL l c with
    | none => rw [hr] at hvn; cases hvn
    | some r =>
      rw [hr] at hvn
      simp only [Option.map_some, Option.some.injEq, PN.view, AN.mk.injEq] at hvn
      exact ⟨r, rfl, hvn.1, hvn.2.1⟩
  simp (maxSteps := 2000000) only [c_ref20_Of, vc_seq, vc_rg, thenQ_n, kKeep_eq, segs_nil, segs_n, ops_nil, ops_cons, vcOp, ev, look, put_mk, keep_mk, keepL, Value.oneCell', cond_true, Nat.reduceEqDiff, ↓reduceIte, reduceCtorEq, Nat.zero_add, initF, initP, gTreeNode_zero, ptr]
  refine call_val (dOk_spec rfl) rfl (Q := fun rs m' => RNodeQ l n rs m') (fun w' vs hv hw _ => ?_) fun rs m1 hrs hq => ?_
  · obtain ⟨vs, rfl, _, hv⟩ := argsV_g hv
    obtain ⟨vs, rfl, _, hv⟩ := argsV_g hv
    obtain rfl := argsV_nil hv
    exact node w' hw n
  obtain ⟨t0, rfl, h1, h2⟩ := hq
  simp (maxSteps := 2000000) only [retS, List.getElem?_cons_zero, List.getElem?_cons_succ, vc_skip, vc_ret, vc_seq, vc_rg, vc_ite, thenQ_n, thenQ_r, kKeep_eq, segs_nil, segs_n, ops_nil, ops_cons, vcOp, ev, look, updL, put_mk, put_mk0, keep_mk, keepL, unV, Value.oneCell', cond_true, Nat.reduceEqDiff, ↓reduceIte, reduceCtorEq, Bool.and_true, Bool.true_and, true_and, and_true, finW_r, resL, resOne, br_t, getT_nil, setT_nil, gTreeNode_sz, gTreeNode_same]
  rw [isL_has hvl]
  refine ⟨fun hno => ?_, fun hn => ?_⟩
  · have hno : T.has n = false := by simpa using hno
    have hx : T.get n = none := by
      rw [PT.has] at hno
      exact Option.isSome_eq_false_iff.1 hno |> Option.isNone_iff_eq_none.1
    exact ⟨_, _, rfl, fun _ => ⟨rfl, rfl⟩, (fun x h => by rw [hx] at h; cases h)⟩
  have hn : T.has n = true := by simpa using hn
  obtain ⟨x, hx⟩ := Option.isSome_iff_exists.1 hn
  have h22 : T.has 2 = true := has_iff.2 hg.two
  refine call_is _ [.s (.bool (T.below n 2))] rfl rfl (fun w' vs hv hw => ?_) ?_
  · obtain ⟨vs, rfl, _, hv⟩ := argsV_g hv
    obtain ⟨vs, rfl, _, hv⟩ := argsV_g hv
    obtain ⟨vs, rfl, _, hv⟩ := argsV_g hv
    obtain rfl := argsV_nil hv
    intro _
    have := rBelow_spec w' A m (fun b o h => hw b o (by rw [u0_no]; exact hm b o h)) b l ls h hL hgl n 2 (T.nodes.length + 1) (fun k hk => by rw [hvl] at hk; have := hk.few; omega) hl
    rw [isL_has hvl, h22, Bool.true_and, hvl, ← belowA_V] at this
    exact this
  simp (maxSteps := 2000000) only [retS, vc_skip, vc_ret, vc_seq, vc_block, vc_rg, vc_ite, thenQ_n, thenQ_r, kKeep_eq, segs_nil, segs_n, ops_nil, ops_cons, vcOp, ev, look, put_mk, keep_mk, keepL, Value.oneCell', cond_true, Nat.reduceEqDiff, ↓reduceIte, reduceCtorEq, finW_r, resL, resOne, br_t]
  refine ⟨fun hb => ⟨_, _, rfl, (fun h => by rw [hx] at h; cases h), fun _ _ => ⟨fun _ => ⟨rfl, rfl⟩, (fun h => by rw [hb] at h; cases h)⟩⟩, fun hb => ?_⟩
  obtain ⟨l0, hll, hl0⟩ := way_at hok hg hn hb
  refine vc_loop (ι := List Int × List Int × Int × Value × PH) (fun q => ⟨[(0, .g (.s (.pointer (some ⟨b, 0, none⟩)))), (1, .g (.s (.int .i64 (q.2.2.1)))), (8, .g (.s q.2.2.2.1))], [], [], q.2.2.2.2⟩)
    (fun q => q.1 ++ q.2.1 = l0 ∧ Way T q.2.1 q.2.2.1 ∧ SlO q.2.2.2.2 q.2.2.2.1 9 1 ((namesW T q.1).map Pa.gN)) (fun q => q.2.1.length) ([], l0, n, .slice none 0 0, PH.no) ⟨rfl, hl0, ⟨fun x hx => by simp [namesW] at hx, .inl ⟨rfl, by simp [namesW]⟩⟩⟩ (ge_of ?_ ?_ rfl rfl rfl) ?_
  · simp [frIn, look]
  · simp [pvIn, look]
  rintro ⟨done, rest, cur, vN, mN⟩ ⟨hdr, hW, hS⟩
  simp only at hdr hW hS
  generalize hQ : loopQ _ _ _ _ _ = Q
  simp (maxSteps := 2000000) only [c_ref20_Of_L0, vc_skip, vc_exit, vc_seq, vc_block, vc_rg, vc_ite, thenQ_n, thenQ_e, kKeep_eq, segs_nil, segs_n, ops_nil, ops_cons, vcOp, ev, look, put_mk, keep_mk, keepL, binV, binC, Value.oneCell', cond_true, Nat.reduceEqDiff, ↓reduceIte, reduceCtorEq, Bool.true_and, true_and, br_t, gTreeNode_zero]
  refine ⟨fun hc => ?_, fun hc => ?_⟩
  · cases rest with
    | nil => exact absurd (show cur = 1 from hW) (by simpa using hc)
    | cons m0 rest =>
      obtain ⟨rfl, htc, y, hy, hW'⟩ := hW
      have hlen : (done ++ [cur]).length + rest.length = l0.length := by rw [← hdr]; simp; omega
      simp only [List.length_append, List.length_cons, List.length_nil] at hlen
      refine call_val (dOk_spec rfl) rfl (Q := fun rs m' => ∃ v, rs = [gTreeNode ⟨cur, y.parent, y.name, v⟩, .s (.bool true)]) (fun w' vs hv hw _ => ?_) fun rs m1 hrs hq => ?_
      · obtain ⟨vs, rfl, _, hv⟩ := argsV_g hv
        obtain ⟨vs, rfl, _, hv⟩ := argsV_g hv
        obtain rfl := argsV_nil hv
        refine (node w' hw cur).mono fun rs m' hq => ?_
        obtain ⟨t, rfl, _, q2⟩ := hq
        obtain ⟨r, hr, r1, r2⟩ := two hy
        obtain ⟨q3, q4, q5, _⟩ := q2 r hr
        refine ⟨t.attrs, ?_⟩
        rw [isL_get, hr]
        have e : t = ⟨cur, y.parent, y.name, t.attrs⟩ := by
          have hrn := ((getL_mem hL.sorted).1 hr).2
          rw [hrn] at q3; rw [r1] at q4; rw [r2] at q5
          cases t
          simp only at q3 q4 q5
          rw [q3, q4, q5]
        rw [← e]; rfl
      obtain ⟨v1, rfl⟩ := hq
      simp (maxSteps := 2000000) only [retS, List.getElem?_cons_zero, List.getElem?_cons_succ, vc_seq, vc_rg, thenQ_n, kKeep_eq, segs_nil, segs_n, ops_nil, ops_cons, vcOp, ev, evL, gvL, look, updL, put_mk, put_mk0, keep_mk, keepL, GV.getT, GV.sz, Nat.reduceEqDiff, ↓reduceIte, reduceCtorEq, List.nil_append, Nat.zero_add, Bool.and_true, Bool.true_and, Bool.not_false, true_and, and_true, Option.map_some, szAll, List.length_cons, List.length_nil, getT_nil, setT_nil, fits_s, gTreeNode_sz, gTreeNode_same, gTreeNode_fld2, gTreeNode_get2]
      refine gh_own 33 33 (.s (.string ⟨#[]⟩)) rfl rfl hS (uni_no_r _).symm (dis_no_r _) ?_
      simp (maxSteps := 2000000) only [ops_cons, vcOp, ev, look, updL, put_mk, rowE, cond_true, cond_false, Nat.reduceEqDiff, Nat.reduceBEq, ↓reduceIte, List.nil_append, List.cons_append, Nat.zero_add, Bool.and_true, Bool.true_and, BEq.rfl, true_and, and_true, List.length_cons, List.length_nil, kill, SV.mentions, ne_eq, not_false_eq_true, List.drop_zero, List.length_map]
      refine ⟨by rw [namesW_len]; omega, ?_⟩
      refine gh_pub 34 32 (1 + (namesW T done).length) rfl rfl (by simp; omega) fun v' u' hv' hS' hd' => ?_
      have eN : namesW T (done ++ [cur]) = nameL T cur :: namesW T done := by simp [namesW]
      have eS : GV.s (Value.string y.name) :: ((namesW T done).map Pa.gN).take (namesW T done).length = (namesW T (done ++ [cur])).map Pa.gN := by
        rw [eN, List.map_cons, List.take_of_length_le (by simp), Pa.gN, nameL_mk hy]
      rw [eS] at hS'
      simp (maxSteps := 2000000) only [dropK, vc_rg, thenQ_n, blockQ_n, kKeep_eq, segs_nil, segs_n, ops_nil, ops_cons, vcOp, ev, look, put_mk, keep_mk, keepL, GV.getT, cond_true, cond_false, Nat.reduceEqDiff, Nat.reduceBEq, ↓reduceIte, reduceCtorEq, List.nil_append, Bool.true_and, Bool.not_false, BEq.rfl, true_and, kill, SV.mentions, getT_nil, fits_s, gTreeNode_fld1, gTreeNode_get1]
      rw [uni_no_r]
      subst hQ; simp only [loopQ_n]; refine ⟨(done ++ [cur], rest, y.parent, v', u'), ?_, ?_, ge_of ?_ ?_ rfl rfl rfl⟩
      · exact ⟨by simp [← hdr], hW', hS'⟩
      · simp only [List.length_cons]; omega
      · simp only [frIn, look, Nat.reduceEqDiff, ↓reduceIte, reduceCtorEq, Bool.and_true, and_true]
        try simp
      · simp [pvIn, look]
  · subst hQ
    simp (maxSteps := 2000000) only [vc_seq, vc_rg, thenQ_n, blockQ_e, loopQ_e, segs_n, ops_cons, vcOp, ev, look, put_mk, Nat.reduceEqDiff, ↓reduceIte, reduceCtorEq]
    have hc1 : cur = 1 := by simpa using hc
    subst hc1
    have hr : rest = [] := by
      cases rest with
      | nil => rfl
      | cons m rest => exact absurd hW.2.1 (by decide)
    subst hr
    rw [List.append_nil] at hdr
    subst hdr
    have hsum : Pa.sumL (namesW T done) ≤ 137438953472 := by
      have := Pa.sumL_le (ns := namesW T done) fun x hx => by
        obtain ⟨m, hm, rfl⟩ := List.mem_map.1 (List.mem_reverse.1 hx)
        exact hl0.name hg hm
      rw [namesW_len] at this
      omega
    refine call_ism _ [Pa.gN (Pa.joinA (namesW T done)).1, .s (.int .i64 (Pa.joinA (namesW T done)).2)] rfl rfl (fun w' vs hv _ _ hm => ?_) ?_
    · obtain ⟨vs, rfl, _, hv⟩ := argsV_g hv
      obtain rfl := argsV_nil hv
      exact Pa.refJoin_spec w' vN (namesW T done) hsum mN hm hS.toR
    simp (maxSteps := 2000000) only [retS, List.getElem?_cons_zero, List.getElem?_cons_succ, vc_ret, thenQ_n, kKeep_eq, segs_nil, ops_nil, ops_cons, vcOp, ev, look, put_mk, keep_mk, keepL, Nat.reduceEqDiff, ↓reduceIte, finW_r, resL, resOne]
    refine ⟨_, _, rfl, fun h => (by rw [hx] at h; cases h), fun _ _ => ⟨fun h => (by rw [hb] at h; cases h), fun _ l' hl' => ?_⟩⟩
    have := hl0.eq hl'
    subst this
    exact ⟨rfl, rfl⟩
end
end Go.Proofs.YtnoeabmpdjpfaaaGreatDoor.Vc

/- Both trees by operations. -/
set_option linter.unusedVariables false
set_option linter.unusedSimpArgs false
set_option maxRecDepth 100000
namespace Go.Proofs.YtnoeabmpdjpfaaaGreatDoor.Vc
open Go Go.Proofs

theorem made20_spec (w : World) (va : Value) (ops : List Op) (hl : ops.length ≤ 1048576) (ho : ∀ op ∈ ops, OpOk op) (u : PH) (hu : u.le w) (hc : SlR u va 8 (ops.map gOp)) :
    Spec Tryz.prog f_law20_made [va] PH.no w fun rs m' => ∃ L T b lr ls mA mR, rs = [.s (ptr (L .t)), .s (ptr b)] ∧ m' = uni mR mA ∧ dis mR mA ∧ TM mA L T ∧ RC mR b lr ls ∧ LOk lr ∧ viewL lr = T.view ∧ T.ok ops.length ∧ VGood T.view ∧ T.kidsOk := by
  refine spec_of k_law20_made [.ro va 8 (gOp zOp) (ops.map gOp)] (by simp) (by simpa [AV.ok, u0_no] using hc.up hu.sub) ?_
  simp (maxSteps := 2000000) only [c_law20_made, vc_seq, vc_rg, thenQ_n, kKeep_eq, segs_nil, segs_n, ops_nil, ops_cons, vcOp, ev, look, put_mk, keep_mk, keepL, Value.oneCell', cond_true, ↓reduceIte, reduceCtorEq, initF, initP, List.length_map, ptr]
  refine call_ownm rfl rfl (Q := fun rs m' => ∃ L, rs = [.s (ptr (L .t))] ∧ TM m' L T0) (fun w' vs hv hw _ _ => ?_) fun rs m1 _ hq _ => ?_
  · obtain rfl := argsV_nil hv
    exact New_spec w'
  obtain ⟨L0, rfl, hT0⟩ := hq
  simp (maxSteps := 2000000) only [retS, uni_no_r, vc_seq, vc_rg, thenQ_n, kKeep_eq, segs_nil, segs_n, ops_nil, ops_cons, vcOp, ev, look, put_mk, keep_mk, keepL, ↓reduceIte, reduceCtorEq, ptr]
  refine call_ownm rfl rfl (Q := fun rs m' => ∃ b, rs = [.s (ptr b)] ∧ RC m' b T0L []) (fun w' vs hv hw _ _ => ?_) fun rs m2 _ hq hd2 => ?_
  · obtain rfl := argsV_nil hv
    exact (rNew_spec w' PH.no).mono fun rs m' ⟨b, e, h⟩ => ⟨b, e, m', PH.no, (uni_no_r _).symm, dis_no_r _, h⟩
  obtain ⟨b, rfl, hR0⟩ := hq
  simp (maxSteps := 2000000) only [retS, vc_seq, vc_rg, thenQ_n, kKeep_eq, segs_nil, segs_n, ops_nil, ops_cons, vcOp, ev, look, put_mk, keep_mk, keepL, Value.oneCell', cond_true, Nat.reduceEqDiff, ↓reduceIte, reduceCtorEq, ptr]
  refine eq_of (eqTree _) ?_
  simp (maxSteps := 2000000) only [vc_skip, vc_seq, vc_block, vc_rg, vc_ite, thenQ_n, kKeep_eq, segs_nil, segs_n, ops_nil, ops_cons, vcOp, ev, look, put_mk, keep_mk, keepL, Value.oneCell', cond_true, Nat.reduceEqDiff, ↓reduceIte, reduceCtorEq, ↓br_ft, Bool.bne_false]
  refine vc_loop (ι := Nat × (Lay × PT × PH) × (List TN × List (List TN) × PH)) (fun q => ⟨[(4, .g (.s (.pointer (some ⟨L0 .t, 0, none⟩)))), (5, .g (.s (.pointer (some ⟨b, 0, none⟩)))), (12, .row 0 0 (ops.length)), (13, .g (.s (.int .i64 (ops.length)))), (14, .g (.s (.int .i64 (q.1))))], [(0, .ro 8 (gOp zOp) (ops.map gOp))], [], uni q.2.2.2.2 q.2.1.2.2⟩)
    (fun q => q.1 ≤ ops.length ∧ (q.2.1.1 .t = L0 .t ∧ TM q.2.1.2.2 q.2.1.1 q.2.1.2.1 ∧ q.2.1.2.1.ok q.1 ∧ VGood q.2.1.2.1.view ∧ q.2.1.2.1.kidsOk) ∧ (RC q.2.2.2.2 b q.2.2.1 q.2.2.2.1 ∧ LOk q.2.2.1 ∧ viewL q.2.2.1 = q.2.1.2.1.view ∧ q.2.2.2.1.length ≤ q.1) ∧ dis q.2.2.2.2 q.2.1.2.2) (fun q => ops.length - q.1) (0, (L0, T0, m1), (T0L, [], m2)) ⟨by simp, ⟨rfl, hT0, T0_ok, T0_good, T0_kids⟩, ⟨hR0, T0L_ok, T0L_view, by simp⟩, hd2⟩ (ge_of ?_ ?_ rfl rfl rfl) ?_
  · simp [frIn, look]
  · simp [pvIn, look]
  clear hT0 hR0 hd2
  rintro ⟨i, ⟨L, T, mA⟩, ⟨lr, ls, mR⟩⟩ ⟨hi, ⟨hLt, hT, hok, hgd, hkd⟩, ⟨hR, hL, hv, hls⟩, hd⟩
  simp only at hi hLt hT hok hgd hkd hR hL hv hls hd
  obtain ⟨hb1, hb2⟩ := list_bounds hL hv hok hgd
  generalize hQ : loopQ _ _ _ _ _ = Q
  simp (maxSteps := 2000000) only [c_law20_made_L0, vc_skip, vc_exit, vc_seq, vc_block, vc_rg, vc_ite, thenQ_n, thenQ_e, kKeep_eq, segs_nil, segs_n, ops_nil, ops_cons, vcOp, ev, look, updL, put_mk, put_mk0, keep_mk, keepL, rowE, rowD, binV, binC, Nat.reduceEqDiff, ↓reduceIte, reduceCtorEq, Nat.zero_add, Bool.and_true, Bool.true_and, true_and, and_true, Int.toNat_natCast, decide_eq_true_eq, decide_eq_false_iff_not, br_t, getT_nil, setT_nil, gStamp_zero, gOp_sz, gOp_fits, gOp_same, gOp_zero, getD_gOp]
  refine ⟨fun hlt => ⟨⟨by omega, by omega⟩, ?_⟩, fun hge => ?_⟩
  · obtain ⟨op, hop⟩ : ∃ op, ops.getD i zOp = op := ⟨_, rfl⟩
    have hmem : op ∈ ops := by rw [← hop, List.getD_eq_getElem?_getD, List.getElem?_eq_getElem (by omega)]; exact List.getElem_mem _
    obtain ⟨hw1, hw2⟩ := ho op hmem
    rw [hop]
    refine call_with mA mR (dOk_spec rfl) rfl (uni_comm hd) (dis_comm hd) (Q := fun rs m' => (mayA T op = false → rs = [gUndo zUndo, .s (.bool false)] ∧ TM m' L T) ∧ (mayA T op = true → ∃ L', L' .t = L0 .t ∧ L' .mk = L .mk ∧ rs = [gUndo (T.undo (ptr (L .mk)) op), .s (.bool true)] ∧ TM m' L' (T.does op))) (fun w' vs hvv _ _ => ?_) fun rs m4 _ hq hd4 => ?_
    · obtain ⟨vs, rfl, _, hvv⟩ := argsV_g hvv
      obtain ⟨vs, rfl, _, hvv⟩ := argsV_g hvv
      obtain rfl := argsV_nil hvv
      have := Do_spec w' mA L T op hw2 (ok_fits hok (by omega)) hT
      rw [hLt] at this
      exact this
    cases hmay : mayA T op
    · obtain ⟨rfl, hT4⟩ := hq.1 hmay
      simp (maxSteps := 2000000) only [retS, vc_rg, thenQ_n, kKeep_eq, segs_nil, segs_n, ops_nil, ops_cons, vcOp, ev, look, put_mk, keep_mk, keepL, Nat.reduceEqDiff, ↓reduceIte, reduceCtorEq, Bool.true_and, true_and, getT_nil, gOp_fits]
      refine call_with mR m4 (dOk_spec rfl) rfl (uni_comm hd4) (dis_comm hd4) (Q := fun rs m' => (mayA T op = false → rs = [.s (.bool false)] ∧ RC m' b lr ls) ∧ (mayA T op = true → rs = [.s (.bool true)] ∧ RC m' b (doL lr op) (ls ++ [lr]))) (fun w' vs hvv _ _ => ?_) fun rs m5 _ hq5 hd5 => ?_
      · obtain ⟨vs, rfl, _, hvv⟩ := argsV_g hvv
        obtain ⟨vs, rfl, _, hvv⟩ := argsV_g hvv
        obtain rfl := argsV_nil hvv
        exact rDo_spec w' mR b lr ls hR hL T hv hgd op hw2 (by omega) (by omega) fun t ht => by have := hb2 t ht; omega
      obtain ⟨rfl, hR5⟩ := hq5.1 hmay
      simp (maxSteps := 2000000) only [retS, vc_rg, thenQ_n, blockQ_n, kKeep_eq, segs_nil, segs_n, ops_nil, ops_cons, vcOp, ev, look, put_mk, keep_mk, keepL, binV, binC, Value.oneCell', cond_true, Nat.reduceEqDiff, ↓reduceIte, Bool.true_and, true_and]
      subst hQ; simp only [loopQ_n]; refine ⟨(i + 1, (L, T, m4), (lr, ls, m5)), ?_, ?_, ge_of ?_ ?_ rfl rfl rfl⟩
      · exact ⟨by simp only; omega, ⟨hLt, hT4, hok.up (by simp only; omega), hgd, hkd⟩, ⟨hR5, hL, hv, by simp only; omega⟩, hd5⟩
      · simp only; omega
      · simp only [frIn, look, Nat.reduceEqDiff, ↓reduceIte, Bool.and_true, Bool.true_and, true_and, and_true]
        rw [wrap_n (by omega)]
        try simp
      · simp [pvIn, look]
    · obtain ⟨L', hL1, hL2, rfl, hT4⟩ := hq.2 hmay
      simp (maxSteps := 2000000) only [retS, vc_rg, thenQ_n, kKeep_eq, segs_nil, segs_n, ops_nil, ops_cons, vcOp, ev, look, put_mk, keep_mk, keepL, Nat.reduceEqDiff, ↓reduceIte, reduceCtorEq, Bool.true_and, true_and, getT_nil, gOp_fits, ptr]
      refine call_with mR m4 (dOk_spec rfl) rfl (uni_comm hd4) (dis_comm hd4) (Q := fun rs m' => (mayA T op = false → rs = [.s (.bool false)] ∧ RC m' b lr ls) ∧ (mayA T op = true → rs = [.s (.bool true)] ∧ RC m' b (doL lr op) (ls ++ [lr]))) (fun w' vs hvv _ _ => ?_) fun rs m5 _ hq5 hd5 => ?_
      · obtain ⟨vs, rfl, _, hvv⟩ := argsV_g hvv
        obtain ⟨vs, rfl, _, hvv⟩ := argsV_g hvv
        obtain rfl := argsV_nil hvv
        exact rDo_spec w' mR b lr ls hR hL T hv hgd op hw2 (by omega) (by omega) fun t ht => by have := hb2 t ht; omega
      obtain ⟨rfl, hR5⟩ := hq5.2 hmay
      obtain ⟨hL5, hv5⟩ := doL_view hL hv hok hgd hmay
      simp (maxSteps := 2000000) only [retS, vc_rg, thenQ_n, blockQ_n, kKeep_eq, segs_nil, segs_n, ops_nil, ops_cons, vcOp, ev, look, put_mk, keep_mk, keepL, binV, binC, Value.oneCell', cond_true, Nat.reduceEqDiff, ↓reduceIte, Bool.true_and, true_and]
      subst hQ; simp only [loopQ_n]; refine ⟨(i + 1, (L', T.does op, m4), (doL lr op, ls ++ [lr], m5)), ?_, ?_, ge_of ?_ ?_ rfl rfl rfl⟩
      · exact ⟨by simp only; omega, ⟨hL1, hT4, (does_ok hok hmay hw1).up (by simp only; omega), does_good hgd hok hmay, does_kids hgd hmay hkd⟩, ⟨hR5, hL5, hv5, by simp only [List.length_append, List.length_cons, List.length_nil]; omega⟩, hd5⟩
      · simp only; omega
      · simp only [frIn, look, Nat.reduceEqDiff, ↓reduceIte, Bool.and_true, Bool.true_and, true_and, and_true]
        rw [wrap_n (by omega)]
        try simp
      · simp [pvIn, look]
  · subst hQ
    simp (maxSteps := 2000000) only [vc_ret, vc_seq, vc_rg, thenQ_n, blockQ_e, kKeep_eq, loopQ_e, finQ_r, segs_nil, segs_n, ops_nil, ops_cons, vcOp, ev, look, put_mk, keep_mk, keepL, Nat.reduceEqDiff, ↓reduceIte]
    have hi' : i = ops.length := by omega
    exact fin_m (rs := [.s (ptr (L .t)), .s (ptr b)]) (uni mR mA) (by rw [hLt]; rfl) (fun _ _ h => h) ⟨L, T, b, lr, ls, mA, mR, rfl, rfl, hd, hT, hR, hL, hv, hi' ▸ hok, hgd, hkd⟩
end Go.Proofs.YtnoeabmpdjpfaaaGreatDoor.Vc

/- PathLeads, the walk. -/
set_option linter.unusedVariables false
set_option linter.unusedSimpArgs false
set_option maxRecDepth 100000
namespace Go.Proofs.YtnoeabmpdjpfaaaGreatDoor.Vc
open Go Go.Proofs

theorem res_eq {T : PT} (hg : VGood T.view) {p : List UInt8} {g e g' e' : Int} (h : ResX T p [.s (.int .i64 g), .s (.int .i64 e)]) (h' : RresX T.view p [.s (.int .i64 g'), .s (.int .i64 e')]) : g' = g ∧ e' = e := by
  obtain ⟨a, b, q, h1, h2, _⟩ := h
  obtain ⟨a', b', q', h1', h2'⟩ := h'
  simp only [List.cons.injEq, GV.s.injEq, Value.int.injEq, true_and, and_true] at q q'
  obtain ⟨rfl, rfl⟩ := q
  obtain ⟨rfl, rfl⟩ := q'
  by_cases h0 : (Pa.splitA p).2 = 0
  · exact (h2' h0).uniq (fun n a h => hg.pos n a h) (h2 h0)
  · obtain ⟨a1, a2⟩ := h1 h0
    obtain ⟨b1, b2⟩ := h1' h0
    exact ⟨b1.trans a1.symm, b2.trans a2.symm⟩
theorem ResX.toR {T : PT} {p : List UInt8} {rs : List GV} (h : ResX T p rs) : RresX T.view p rs := by
  obtain ⟨a, b, q, h1, h2, _⟩ := h
  exact ⟨a, b, q, h1, h2⟩
theorem ResX.there {T : PT} {p : List UInt8} {g : Int} (h : ResX T p [.s (.int .i64 g), .s (.int .i64 0)]) : ∃ x, T.get g = some x := by
  obtain ⟨a, b, q, h1, h2, h3⟩ := h
  simp only [List.cons.injEq, GV.s.injEq, Value.int.injEq, true_and, and_true] at q
  obtain ⟨rfl, rfl⟩ := q
  exact h3 rfl

theorem childA_few {T : PT} {k : Nat} (hok : T.ok k) (hkd : T.kidsOk) (hk : k ≤ 1099511627770) (n : Int) : (childA T n).length ≤ 1099511627776 := by
  have hm := hok.many
  cases hx : T.get n with
  | none => rw [childA_none hx]; simp
  | some x =>
    have := kids_few hkd hx
    rw [childA_get hx, sortCh_len, List.length_map]
    omega
theorem attrsAt_few {T : PT} {k : Nat} (hok : T.ok k) (hk : k ≤ 1099511627770) (n : Int) : (attrsAt T n).length ≤ 1099511627776 := by
  rw [attrsAt]
  cases hx : T.get n with
  | none => simp
  | some x =>
    have := (hok.attrs n x hx).2
    show (attrsOf x).length ≤ _
    rw [attrsOf, List.length_map]
    have h2 : (attrKeys x).length ≤ x.attrs.length := by simp [attrKeys, sortB]
    omega
theorem leads_spec (w : World) (va : Value) (ops : List Op) (n : Int) (p : List UInt8) (hp : p.length < 4294967281) (hl : ops.length ≤ 1048576) (ho : ∀ op ∈ ops, OpOk op) (u : PH) (hu : u.le w) (hc : SlR u va 8 (ops.map gOp)) (uG : PH) (huG : uG.le w) (hG : Pa.GlobI uG) :
    Spec Tryz.prog f_law20_PathLeads [va, .string (Pa.mkS p), .int .i64 n] PH.no w fun rs _ => rs = [.s (.bool true)] := by
  refine spec_val k_law20_PathLeads (Qf := fun rs => rs = [.s (.bool true)]) [.ro va 8 (gOp zOp) (ops.map gOp), .g (.s (.string (Pa.mkS p))), .g (.s (.int .i64 n))] (by simp) (by simpa [AV.ok, u0_no, GV.ok, Value.oneCell'] using hc.up hu.sub) ?_
  simp (maxSteps := 2000000) only [c_law20_PathLeads, vc_seq, vc_rg, thenQ_n, kKeep_eq, segs_nil, segs_n, ops_nil, ops_cons, vcOp, ev, look, put_mk, keep_mk, keepL, Value.oneCell', cond_true, Nat.reduceEqDiff, Nat.reduceAdd, ↓reduceIte, reduceCtorEq, Nat.zero_add, initF, initP, Int.reduceAdd, List.length_map]
  refine call_frz (dOk_spec rfl) rfl (Q := fun rs m' => ∃ L T b lr ls mA mR, rs = [.s (ptr (L .t)), .s (ptr b)] ∧ m' = uni mR mA ∧ dis mR mA ∧ TM mA L T ∧ RC mR b lr ls ∧ LOk lr ∧ viewL lr = T.view ∧ T.ok ops.length ∧ VGood T.view ∧ T.kidsOk) (fun w' vs hv hw _ => ?_) fun rs m1 _ hq => ?_
  · obtain ⟨v1, vs, rfl, k1, hv⟩ := argsV_row (z := 8) (xs := ops.map gOp) rfl (by simp) hv
    obtain rfl := argsV_nil hv
    exact made20_spec w' v1 ops hl ho w'.ph (fun _ _ h => h) k1
  obtain ⟨L, T, b, lr, ls, mA, mR, rfl, rfl, hd, hT, hR, hLr, hvl, hok, hg, hkd⟩ := hq
  have hA : ∀ {w' : World} {ph : List PH}, uni mR mA ∈ ph → (∀ u ∈ ph, u.le w') → mA.le w' := fun hm h b o hb => h _ hm b o (sub_uni_r hd b o hb)
  have hmany := hok.many
  obtain ⟨hb1, hb2⟩ := list_bounds hLr hvl hok hg
  have hgl : VGood (viewL lr) := by rw [hvl]; exact hg
  obtain ⟨m1', A, hmR, hdA, hRM⟩ := hR
  have h1le : ∀ {w' : World} {ph : List PH}, uni mR mA ∈ ph → (∀ u ∈ ph, u.le w') → m1'.le w' := fun hm h b o hb => h _ hm b o (sub_uni_l _ _ b o (by rw [hmR]; exact sub_uni_l _ _ b o hb))
  have hAle : ∀ {w' : World} {ph : List PH}, uni mR mA ∈ ph → (∀ u ∈ ph, u.le w') → A.le w' := fun hm h b o hb => h _ hm b o (sub_uni_l _ _ b o (by rw [hmR]; exact sub_uni_r hdA b o hb))
  simp (maxSteps := 2000000) only [retS, List.getElem?_cons_zero, List.getElem?_cons_succ, vc_seq, vc_rg, thenQ_n, kKeep_eq, segs_nil, segs_n, ops_nil, ops_cons, vcOp, ev, look, put_mk, keep_mk, keepL, Nat.reduceEqDiff, ↓reduceIte, reduceCtorEq, ptr]
  refine call_is _ [.s (.bool true)] rfl rfl (fun w' vs hv hw _ => ?_) ?_
  · obtain rfl := argsV_nil hv
    exact Pa.begun_spec w' uG (fun b o hb => hw b o (by rw [u0_no]; exact huG b o hb)) hG
  simp (maxSteps := 2000000) only [retS, segs_g, ops_nil, ops_cons, vcOp, ev, look, put_mk, unV, Value.oneCell', cond_true, Nat.reduceEqDiff, ↓reduceIte, Bool.not_true, ↓br_ff]
  refine eq_of (eqTree _) ?_
  simp (maxSteps := 2000000) only [vc_skip, vc_seq, vc_rg, vc_ite, thenQ_n, kKeep_eq, segs_nil, segs_n, ops_nil, ops_cons, vcOp, ev, look, put_mk, keep_mk, keepL, Value.oneCell', cond_true, Nat.reduceEqDiff, ↓reduceIte, ↓br_ft, Bool.bne_false]
  refine call_val (dOk_spec rfl) rfl (Q := fun rs _ => ResX T p rs) (fun w' vs hv hw hph => ?_) fun rs m4 _ hq => ?_
  · obtain ⟨vs, rfl, _, hv⟩ := argsV_g hv
    obtain ⟨vs, rfl, _, hv⟩ := argsV_g hv
    obtain rfl := argsV_nil hv
    exact ResolveX_spec (hA (by simp) hph) hT p hp uG (fun b o hb => hw b o (by rw [u0_no]; exact huG b o hb)) hG hok (by omega) hg hkd
  obtain ⟨g, e, rfl, hres⟩ := hq
  have hres : ResX T p [.s (.int .i64 g), .s (.int .i64 e)] := ⟨g, e, rfl, hres⟩
  simp (maxSteps := 2000000) only [retS, List.getElem?_cons_zero, List.getElem?_cons_succ, vc_seq, vc_rg, thenQ_n, kKeep_eq, segs_nil, segs_n, ops_nil, ops_cons, vcOp, ev, look, put_mk, keep_mk, keepL, Nat.reduceEqDiff, ↓reduceIte]
  refine call_val (dOk_spec rfl) rfl (Q := fun rs _ => RresX (viewL lr) p rs) (fun w' vs hv hw hph => ?_) fun rs m4 _ hq => ?_
  · obtain ⟨vs, rfl, _, hv⟩ := argsV_g hv
    obtain ⟨vs, rfl, _, hv⟩ := argsV_g hv
    obtain rfl := argsV_nil hv
    exact rResolve_spec w' A m1' (h1le (by simp) hph) b lr ls hRM (hAle (by simp) hph) hLr hgl (by omega) p hp
  obtain ⟨g2, e2, rfl, hres2⟩ := hq
  rw [hvl] at hres2
  obtain ⟨rfl, rfl⟩ := res_eq hg hres ⟨g2, e2, rfl, hres2⟩
  clear hres2
  simp (maxSteps := 2000000) only [retS, List.getElem?_cons_zero, List.getElem?_cons_succ, vc_skip, vc_ret, vc_seq, vc_rg, vc_ite, thenQ_n, thenQ_r, kKeep_eq, segs_nil, segs_n, segs_g, ops_nil, ops_cons, vcOp, RO.isGh, skip_mk, skipL, ev, look, put_mk, keep_mk, keepL, binV, binC, Value.oneCell', cond_true, cond_false, Nat.reduceEqDiff, ↓reduceIte, Bool.true_and, Bool.not_false, true_and, finW_r, resL, resOne, ↓br_tt, ↓br_ft, br_t, br_f]
  refine ⟨fun _ => ⟨fun h => absurd h (by simp), fun _ => ?_⟩, fun h => absurd h (by simp)⟩
  have hcl : ((if e2 = 0 then childA T g2 else []) : List Child).length ≤ 140737488355328 := by
    split
    · have := childA_few hok hkd (by omega) g2
      omega
    · simp
  have hrl : (if e2 = 0 then rchildL lr g2 else []) = (if e2 = 0 then childA T g2 else []) := by
    split
    · rename_i he
      rw [he] at hres
      obtain ⟨x, hx⟩ := hres.there
      exact rchildL_is hLr hvl hg hkd hx
    · rfl
  refine call_frz (dOk_spec rfl) rfl (Q := fun rs m' => ∃ v, rs = [.s v, .s (.int .i64 e2)] ∧ SlR m' v 2 ((if e2 = 0 then childA T g2 else []).map gChild)) (fun w' vs hv hw hph => ?_) fun rs mx _ hq => ?_
  · obtain ⟨vs, rfl, _, hv⟩ := argsV_g hv
    obtain ⟨vs, rfl, _, hv⟩ := argsV_g hv
    obtain rfl := argsV_nil hv
    refine (ListX_spec (hA (by simp) hph) hT p hp uG (fun b o hb => hw b o (by rw [u0_no]; exact huG b o hb)) hG hok (by omega) hg hkd).mono fun rs m' hq => ?_
    obtain ⟨v, g', e', hr', rfl, hs⟩ := hq
    obtain ⟨rfl, rfl⟩ := res_eq hg hres hr'.toR
    exact ⟨v, rfl, hs.toR⟩
  obtain ⟨vx, rfl, hsx⟩ := hq
  simp (maxSteps := 2000000) only [retS, List.getElem?_cons_zero, List.getElem?_cons_succ, vc_seq, vc_rg, thenQ_n, kKeep_eq, segs_nil, segs_n, ops_nil, ops_cons, vcOp, ev, look, put_mk, keep_mk, keepL, Nat.reduceEqDiff, ↓reduceIte]
  refine call_frz (dOk_spec rfl) rfl (Q := fun rs m' => ∃ v, rs = [.s v, .s (.int .i64 e2)] ∧ SlR m' v 2 ((if e2 = 0 then childA T g2 else []).map gChild)) (fun w' vs hv hw hph => ?_) fun rs my _ hq => ?_
  · obtain ⟨vs, rfl, _, hv⟩ := argsV_g hv
    obtain ⟨vs, rfl, _, hv⟩ := argsV_g hv
    obtain rfl := argsV_nil hv
    refine (rList_spec (h1le (by simp) hph) (hAle (by simp) hph) hRM hLr hgl (by omega) p hp).mono fun rs m' hq => ?_
    obtain ⟨v, g', e', hr', rfl, hs⟩ := hq
    rw [hvl] at hr'
    obtain ⟨rfl, rfl⟩ := res_eq hg hres hr'
    rw [hrl] at hs
    exact ⟨v, rfl, hs.toR⟩
  obtain ⟨vy, rfl, hsy⟩ := hq
  simp (maxSteps := 2000000) only [retS, List.getElem?_cons_zero, List.getElem?_cons_succ, vc_seq, vc_rg, thenQ_n, kKeep_eq, segs_nil, segs_n, ops_nil, ops_cons, vcOp, ev, look, put_mk, keep_mk, keepL, Nat.reduceEqDiff, ↓reduceIte]
  refine call_ism _ [.s (.bool true)] rfl rfl (fun w' vs hv _ hph _ => ?_) ?_
  · obtain ⟨vs, rfl, _, hv⟩ := argsV_g hv
    obtain ⟨vs, rfl, _, hv⟩ := argsV_g hv
    obtain rfl := argsV_nil hv
    have := children20_spec w' vx vy _ _ hcl hcl w'.ph (fun _ _ h => h) (hsx.up (hph mx (by simp))) (hsy.up (hph my (by simp)))
    rw [decide_eq_true rfl] at this
    exact this
  simp (maxSteps := 2000000) only [retS, vc_skip, vc_ret, vc_seq, vc_rg, vc_ite, thenQ_n, thenQ_r, kKeep_eq, segs_nil, segs_n, segs_g, ops_nil, ops_cons, vcOp, ev, look, put_mk, keep_mk, keepL, binV, binC, unV, Value.oneCell', cond_true, Nat.reduceEqDiff, ↓reduceIte, Bool.true_and, Bool.not_true, true_and, finW_r, resL, resOne, ↓br_ff, ↓br_ft, br_t]
  refine ⟨fun h => absurd h (by simp), fun _ => ?_⟩
  have hal : ((if e2 = 0 then attrsAt T g2 else []) : List Attr).length ≤ 140737488355328 := by
    split
    · have := attrsAt_few hok (by omega) g2
      omega
    · simp
  refine call_frz (dOk_spec rfl) rfl (Q := fun rs m' => ∃ v, rs = [.s v, .s (.int .i64 e2)] ∧ SlR m' v 2 ((if e2 = 0 then attrsAt T g2 else []).map gAttr)) (fun w' vs hv hw hph => ?_) fun rs mz _ hq => ?_
  · obtain ⟨vs, rfl, _, hv⟩ := argsV_g hv
    obtain ⟨vs, rfl, _, hv⟩ := argsV_g hv
    obtain rfl := argsV_nil hv
    refine (AttrsX_spec (hA (by simp) hph) hT p hp uG (fun b o hb => hw b o (by rw [u0_no]; exact huG b o hb)) hG hok (by omega) hg hkd).mono fun rs m' hq => ?_
    obtain ⟨v, g', e', hr', rfl, hs⟩ := hq
    obtain ⟨rfl, rfl⟩ := res_eq hg hres hr'.toR
    exact ⟨v, rfl, hs.toR⟩
  obtain ⟨vz, rfl, hsz⟩ := hq
  simp (maxSteps := 2000000) only [retS, List.getElem?_cons_zero, List.getElem?_cons_succ, vc_seq, vc_rg, thenQ_n, kKeep_eq, segs_nil, segs_n, ops_nil, ops_cons, vcOp, ev, look, put_mk, keep_mk, keepL, Nat.reduceEqDiff, ↓reduceIte]
  refine call_frz (dOk_spec rfl) rfl (Q := fun rs m' => ∃ v, rs = [.s v, .s (.int .i64 e2)] ∧ SlR m' v 2 ((if e2 = 0 then attrsAt T g2 else []).map gAttr)) (fun w' vs hv hw hph => ?_) fun rs mq _ hq => ?_
  · obtain ⟨vs, rfl, _, hv⟩ := argsV_g hv
    obtain ⟨vs, rfl, _, hv⟩ := argsV_g hv
    obtain rfl := argsV_nil hv
    refine (rAttrs20_spec (h1le (by simp) hph) (hAle (by simp) hph) hRM hLr hgl (by omega) (fun t ht => by have := hb2 t ht; omega) p hp).mono fun rs m' hq => ?_
    obtain ⟨v, g', e', hr', rfl, hs1, hs2⟩ := hq
    rw [hvl] at hr'
    obtain ⟨rfl, rfl⟩ := res_eq hg hres hr'
    refine ⟨v, rfl, ?_⟩
    by_cases he : e' = 0
    · rw [if_pos he]
      rw [he] at hres
      obtain ⟨r, hr⟩ := (getL_iff hvl).2 hres.there
      have := hs2 he r hr
      rwa [attrs_is hLr hvl hok hg hr] at this
    · rw [if_neg he]
      exact hs1 he
  obtain ⟨vq, rfl, hsq⟩ := hq
  simp (maxSteps := 2000000) only [retS, List.getElem?_cons_zero, List.getElem?_cons_succ, vc_seq, vc_rg, thenQ_n, kKeep_eq, segs_nil, segs_n, ops_nil, ops_cons, vcOp, ev, look, put_mk, keep_mk, keepL, Nat.reduceEqDiff, ↓reduceIte]
  refine call_ism _ [.s (.bool true)] rfl rfl (fun w' vs hv _ hph _ => ?_) ?_
  · obtain ⟨vs, rfl, _, hv⟩ := argsV_g hv
    obtain ⟨vs, rfl, _, hv⟩ := argsV_g hv
    obtain rfl := argsV_nil hv
    have := attrs20_spec w' vz vq _ _ hal hal w'.ph (fun _ _ h => h) (hsz.up (hph mz (by simp))) (hsq.up (hph mq (by simp)))
    rw [decide_eq_true rfl] at this
    exact this
  simp (maxSteps := 2000000) only [retS, vc_skip, vc_ret, vc_seq, vc_rg, vc_ite, thenQ_n, thenQ_r, kKeep_eq, segs_nil, segs_n, segs_g, ops_nil, ops_cons, vcOp, ev, look, put_mk, keep_mk, keepL, binV, binC, unV, Value.oneCell', cond_true, Nat.reduceEqDiff, ↓reduceIte, Bool.true_and, Bool.not_true, true_and, finW_r, resL, resOne, ↓br_ff, ↓br_ft, br_t]
  refine ⟨fun h => absurd h (by simp), fun _ => ?_⟩
  refine call_val (dOk_spec rfl) rfl (Q := fun rs _ => ∃ s e, rs = [.s (.string s), .s (.int .i64 e)] ∧ OfA T n s e) (fun w' vs hv hw hph => ?_) fun rs m4 _ hq => ?_
  · obtain ⟨vs, rfl, _, hv⟩ := argsV_g hv
    obtain ⟨vs, rfl, _, hv⟩ := argsV_g hv
    obtain rfl := argsV_nil hv
    exact OfX_spec (hA (by simp) hph) hT n hok (by omega) hg
  obtain ⟨s1, e1, rfl, hof1⟩ := hq
  simp (maxSteps := 2000000) only [retS, List.getElem?_cons_zero, List.getElem?_cons_succ, vc_seq, vc_rg, thenQ_n, kKeep_eq, segs_nil, segs_n, ops_nil, ops_cons, vcOp, ev, look, put_mk, keep_mk, keepL, Nat.reduceEqDiff, ↓reduceIte]
  refine call_val (dOk_spec rfl) rfl (Q := fun rs _ => ∃ s e, rs = [.s (.string s), .s (.int .i64 e)] ∧ OfA T n s e) (fun w' vs hv hw hph => ?_) fun rs m4 _ hq => ?_
  · obtain ⟨vs, rfl, _, hv⟩ := argsV_g hv
    obtain ⟨vs, rfl, _, hv⟩ := argsV_g hv
    obtain rfl := argsV_nil hv
    exact rOf_spec (h1le (by simp) hph) (hAle (by simp) hph) hRM hLr hvl hok hl hg (by omega) (fun t ht => by have := hb2 t ht; omega) n
  obtain ⟨s2, e3, rfl, hof2⟩ := hq
  obtain ⟨rfl, rfl⟩ := hof1.uniq hok hg hof2
  simp (maxSteps := 2000000) only [retS, List.getElem?_cons_zero, List.getElem?_cons_succ, vc_ret, vc_seq, vc_rg, thenQ_n, kKeep_eq, segs_nil, segs_n, segs_g, ops_nil, ops_cons, vcOp, ev, look, put_mk, keep_mk, keepL, binV, binC, Value.oneCell', cond_true, Nat.reduceEqDiff, ↓reduceIte, Bool.and_true, BEq.rfl, decide_true, and_true, finW_r, resL, resOne, ↓br_tt]
end Go.Proofs.YtnoeabmpdjpfaaaGreatDoor.Vc

/- PathLeads: where what is read is of bulk at most the row's bound, the law answers true and leaves its arguments as they were: the row with a bound, and its card. -/
set_option linter.unusedVariables false
set_option linter.unusedSimpArgs false
set_option maxRecDepth 100000
namespace Go.Proofs.YtnoeabmpdjpfaaaGreatDoor.Vc
open Go Go.Proofs Go.Proofs.YtnoeabmpdjpfaaaGreatDoor Go.ChangeShapes Go.WideShapes Go.ChangeAt

theorem zOwn : ownKnob Tryz.prog.godebug = none := by kernel_rfl
theorem zLaidOut : laidOutB Tryz.prog = true := by kernel_rfl
/-- The library's one variable holds some number. -/
theorem globI {W : World} (h : W.ShapedOpen Tryz.prog) : Pa.GlobI W.ph := by
  obtain ⟨m, hm⟩ := cell_of_shapedOpen_int (P := Tryz.prog) (g := 0) (t := 3) (zero := #[.int .i64 0]) h (of_decide_eq_true (by kernel_rfl)) (by kernel_rfl) rfl (by kernel_rfl) (by kernel_rfl) Tryz.underlying3
  unfold World.cell? at hm
  split at hm
  · rename_i c ty fz hb
    simp only [Option.isSome_none, Bool.false_eq_true, if_false] at hm
    exact ⟨c, ty, fz, m, hb, hm⟩
  · cases hm
theorem PathLeads_open {H : Type} (enc : TypeId × Value → H) (W : World) (base : Nat) (vs : List Value) (h : RdBs enc Tryz.prog W base [22, 9, 2] vs 1048576) (hsh : W.ShapedOpen Tryz.prog) : Spec Tryz.prog f_law20_PathLeads vs PH.no W fun rs _ => rs = [.s (.bool true)] := by
  obtain ⟨v1, vs, a, b, rfl, hab, h1, g1, h⟩ := rdbs_cons h
  obtain ⟨v2, vs, a2, b2, rfl, hab2, h2, g2, h⟩ := rdbs_cons h
  obtain ⟨v3, vs, a3, b3, rfl, hab3, h3, g3, h⟩ := rdbs_cons h
  obtain rfl := rdbs_nil h
  obtain ⟨⟨n, rfl, _⟩, _⟩ := rdv_sc (k := .i .i64) (by kernel_rfl) (by kernel_rfl) h3.v g3
  obtain ⟨ops, k1, l1, o1⟩ := open_Ops h1 g1
  obtain ⟨s, rfl, hs⟩ := rdb_str (by kernel_rfl) h2 g2
  have := leads_spec W v1 ops n s.data.toList (by rw [Array.length_toList]; have : s.data.size = s.size := rfl; omega) (by omega) o1 W.ph (fun _ _ h => h) k1 W.ph (fun _ _ h => h) (globI hsh)
  rwa [Pa.mkS_of] at this

/-! ### A world for the witness -/
noncomputable def laidWorld (os : Os) : World :=
  let w0 := World.holding Tryz.prog os ⟨#[], #[], []⟩
  let put (h : Array Obj) (g : Nat) (cs : Array Value) : Array Obj := h.modify g fun
    | .cells _ t frozen => .cells cs t frozen
    | o => o
  let h1 := put w0.heap 1 (Pinned.utf8FirstZ.map fun z : Nat => Value.int .u8 (z : Int)).toArray
  let h2 := put h1 2 (([128, 191, 160, 191, 128, 159, 144, 191, 128, 143, 0, 0, 0, 0, 0, 0, 0, 0, 0, 0, 0, 0, 0, 0, 0, 0, 0, 0, 0, 0, 0, 0] : List Nat).map fun z : Nat => Value.int .u8 (z : Int)).toArray
  { w0 with heap := h2 }
theorem laid_met1 (os : Os) (args : Array Value) : laidMet Tryz.prog Rows.pathLeadsUptoRow.laid ((laidWorld os).forCall (fun _ _ => 0) ⟨#[], args, []⟩).memory :=
  laidMet_of_run' 8 (by kernel_rfl) (by kernel_rfl)
theorem PathLeads_reads (os : Os) {H : Type} (enc : TypeId × Value → H) : ∃ places, DataW.whole enc Tryz.prog ((laidWorld os).forCall (fun _ _ => 0) ⟨#[], #[.slice none 0 0, .string ⟨#[]⟩, .int .i64 0], []⟩).memory Tryz.f5.params.toList Rows.pathLeadsSpec.vars false #[Value.slice none 0 0, .string ⟨#[]⟩, .int .i64 0].toList 8 = some ([.nil, .lit (.string []), .lit (.int .i64 0)], [], places) :=
  ⟨[], by kernel_rfl⟩
theorem PathLeads_lifted (os : Os) (started : os.Started) (H : Type) (enc : TypeId × Value → H) (F : Stop.Interp) :
    ReturnsInHanded {} Tryz.checked os f_law20_PathLeads .any ((Rows.OpenSpec.upto Rows.pathLeadsSpec).preRow enc Tryz.prog Tryz.f5 Rows.pathLeadsUptoRow.domain false Rows.pathLeadsUptoRow.laid) (((Rows.OpenSpec.upto Rows.pathLeadsSpec).at F).post enc Tryz.prog Tryz.f5 false true false false) := by
  obtain ⟨places, hx⟩ := PathLeads_reads os enc
  exact law_lifted_upto (C := Tryz.checked) zOwn zLaidOut started (by kernel_rfl) Tryz.func5
    (witness_row_at (enc := enc) (C := Tryz.checked) false (laidWorld os) #[.slice none 0 0, .string ⟨#[]⟩, .int .i64 0] rfl (by kernel_rfl) (by kernel_rfl) (by kernel_rfl)
      (OpenSpec.preRow_of_cond 8 hx (by kernel_rfl) (fun k hk => by cases hk; kernel_rfl) (by kernel_rfl) (laid_met1 os _)))
    (by kernel_rfl) rfl (tb := 4) (by kernel_rfl) (by kernel_rfl) (ts := [22, 9, 2]) (by kernel_rfl) (fun ds h => by match ds, h with | [d0, d1, d2], _ => rfl) (PathLeads_open enc)
theorem PathLeads_upto : Rows.PathLeadsUptoSaid :=
  OpenClaim.holds_of_cond f_law20_PathLeads Tryz.f5 rfl rfl rfl rfl rfl rfl rfl ⟨rfl, rfl, rfl, rfl, rfl⟩ rfl rfl rfl rfl rfl (by kernel_rfl) Tryz.func5 (by kernel_rfl)
    (of_decide_eq_true (by kernel_rfl)) (by unfold Func.isWrapper; first | (rw [if_pos (by decide +kernel)]; kernel_rfl) | (rw [if_neg (by decide +kernel)]; exact ⟨rfl, rfl⟩))
    (fun os started H enc _ F => by rw [OpenClaim.pre_eq_preRow]; exact PathLeads_lifted os started H enc F)
theorem PathLeads_plain (f : FuncId) (fn : Func) (hf : Tryz.pinned.checked.prog.funcNamed "orchard/orchardlaw20.PathLeads" = some f) (hfn : Tryz.pinned.checked.prog.funcs[f]? = some fn) :
    false = Tryz.pinned.checked.prog.looks [] ∧ ∀ (j : Nat) t, fn.params[j]? = some t → Tryz.pinned.checked.prog.wantsStandIn t = false := by
  obtain rfl : f = 5 := Option.some.inj ((show Tryz.prog.funcNamed "orchard/orchardlaw20.PathLeads" = some 5 by kernel_rfl).symm.trans hf) |>.symm
  obtain rfl : fn = Tryz.f5 := (Option.some.inj (Tryz.func5.symm.trans hfn)).symm
  refine ⟨by kernel_rfl, fun j t ht => ?_⟩
  have hall : (Tryz.f5.params.toList.all fun t => !Tryz.pinned.checked.prog.wantsStandIn t) = true := by kernel_rfl
  have := List.all_eq_true.1 hall t (List.mem_of_getElem? (by simpa using ht))
  simpa using this
theorem PathLeads_card : Rows.PathLeadsUptoCardSaid :=
  Claim7.holds_tied_plain_at .later [] _ _ _ _ PathLeads_upto (fun _ h => by cases h) (by kernel_rfl) (fun _ h => by cases h) pathLeadsUpto_row_tie rfl ⟨rfl, rfl⟩ (by kernel_rfl) rfl PathLeads_plain (by kernel_rfl)
#print axioms PathLeads_card
end Go.Proofs.YtnoeabmpdjpfaaaGreatDoor.Vc

