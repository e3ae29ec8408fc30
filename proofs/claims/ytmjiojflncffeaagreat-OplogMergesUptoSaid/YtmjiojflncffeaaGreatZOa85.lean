/- Part 5 of what a law of this seat rests on. -/
import Derived.Test.YtmjiojflncffeaaGreatProg
import Derived.Shelf.SlLaysW
import Derived.Ground.SlmcProg
import Derived.Shelf.SlMaps.Clone
import Derived.RangeFuncKeeps
import Derived.Shelf.Abstract
import Derived.Test.YtmjiojflncffeaaGreatZOa84
/- A tree of nodes: the walk. -/
set_option linter.unusedVariables false
set_option linter.unusedSimpArgs false
set_option maxRecDepth 100000
namespace Go.Proofs.YtmjiojflncffeaaGreat.Vc
open Go Go.Proofs

theorem TreeM.ne {e : TypeId} {m : PH} {L : Lay} {T : PT} (h : TreeM e m L T) {r s : Role} (hr : act T r) (hs : act T s) (hne : r ≠ s) : L r ≠ L s := by
  obtain ⟨mi, mt, idsV, rfl, hd, hi, ht⟩ := h
  exact fun q => hne (ht.sep r s trivial trivial hr hs q)
theorem TreeM.kidAt {e : TypeId} {m : PH} {L : Lay} {T : PT} {k n : Int} {x : PN} (h : TreeM e m L T) (hx : T.get k = some x) :
    ∃ o, m (L (.kb k)) = some o ∧ MapI (some .i64) o (rawK x.kids) ∧ ∀ o', MapI (some .i64) o' (mput (rawK x.kids) (.int .i64 n) (.int .i64 1)) → TreeM e (m.upd (L (.kb k)) o') L (T.kid k n) := by
  obtain ⟨o, idsV, h1, h2⟩ := h.at (.kb k) ⟨x, hx⟩
  refine ⟨o, h1, h2 x hx, fun o' ho' => ?_⟩
  rw [mput_rawK] at ho'
  exact h.modKids (f := fun x => { x with kids := putK x.kids n }) hx (fun y => ⟨rfl, rfl, rfl⟩) ho'
/-- Nodes by number, as a map's pairs. -/
def rawS (L : Lay) (s : List Int) : List (Value × Value) := s.map fun n => (.int .i64 n, ptr (L (.nd n)))
theorem rawN_S (L : Lay) (l : List (Int × PN)) : rawN L l = rawS L (l.map (·.1)) := by simp [rawN, rawS, Function.comp_def]
theorem rawS_perm {L : Lay} {a b : List Int} (h : (rawS L a).Perm (rawS L b)) : a.Perm b := by
  have := h.map fun p : Value × Value => match p.1 with | .int _ n => n | _ => 0
  simpa [rawS, List.map_map, Function.comp_def] using this
theorem mem_rawS {L : Lay} {p : Value × Value} {l : List Int} (h : p ∈ rawS L l) : ∃ c ∈ l, p = (.int .i64 c, ptr (L (.nd c))) := by
  obtain ⟨c, hc, rfl⟩ := List.mem_map.1 h
  exact ⟨c, hc, rfl⟩

/-- Rows that are a tree. -/
def viewOf (l : List TN) (n : Int) : Option AN := (rowGet l n).map PN.view
def fromA (l : List TN) : Prop := ∃ T, rowsA T0 0 l = some T ∧ T.led
theorem Rowed.view {l : List TN} {T : PT} (h : Rowed l T) : T.view = viewOf l := by
  funext n
  unfold PT.view viewOf
  rw [h.get]

theorem rowGet_no : ∀ {l : List TN} {n : Int}, rowGet l n = none → T0.get n = none
  | [], _, e => e
  | r :: l, n, e => by
    rw [rowGet] at e
    split at e
    · cases e
    · exact rowGet_no e
theorem led_parent {v : Int → Option AN} {k : Nat} {n : Int} {a : AN} (h : LeadsN v k n) (ht : topB n = false) (ha : v n = some a) (hp : topB a.parent = true → False) (hn : v a.parent = none) : False := by
  cases k with
  | zero => rw [show topB n = true from h] at ht; cases ht
  | succ k =>
    obtain ⟨_, b, h1, h2⟩ := h
    rw [ha] at h1; cases h1
    cases k with
    | zero => exact hp h2
    | succ k =>
      obtain ⟨_, c, h3, _⟩ := h2
      rw [hn] at h3; cases h3

theorem From_spec (w : World) (va : Value) (ts : List TreeNode) (l : List TN) (u : PH) (hu : u.le w) (ha : SlR u va 4 (ts.map gTreeNode)) (hts : TsOk u ts l) (k : Nat) (hk : k + 2 < 1099511627776) (hlen : l.length ≤ k) (hat : ∀ r ∈ l, r.attrs.length ≤ k)
    (hnm : ∀ r ∈ l, r.name.size ≤ 140737488355328) (hwf : ∀ r ∈ l, (Lit.int .i64 r.node).wf = true) :
    Spec Tryz.prog f_tree_From [va] PH.no w fun rs m' => (fromA l → ∃ L T, rs = [.s (ptr (L .t)), .s (.int .i64 0)] ∧ TM m' L T ∧ T.ok k ∧ VGood T.view ∧ T.kidsOk ∧ T.view = viewOf l) ∧ (¬ fromA l → rs = [.s (.pointer none), .s (.int .i64 121)]) := by
  refine spec_of k_tree_From [.ro va 4 (gTreeNode zTreeNode) (ts.map gTreeNode)] (by simp) (by simpa [AV.ok, u0_no] using ha.up hu.sub) ?_
  have hlts := hts.len
  simp (maxSteps := 2000000) only [c_tree_From, vc_seq, vc_rg, thenQ_n, kKeep_eq, segs_nil, segs_n, ops_nil, ops_cons, vcOp, ev, look, put_mk, keep_mk, keepL, Value.oneCell', cond_true, ↓reduceIte, reduceCtorEq, initF, initP, List.length_map, ptr]
  refine call_ownm rfl rfl (Q := fun rs m' => ∃ L, rs = [.s (ptr (L .t))] ∧ TM m' L T0) (fun w' vs hv hw _ _ => ?_) fun rs m1 _ hq _ => ?_
  · obtain rfl := argsV_nil hv
    exact New_spec w'
  obtain ⟨L0, rfl, hT0⟩ := hq
  simp (maxSteps := 2000000) only [retS, uni_no_r, vc_seq, vc_block, vc_rg, thenQ_n, kKeep_eq, segs_nil, segs_n, ops_nil, ops_cons, vcOp, ev, look, put_mk, keep_mk, keepL, Value.oneCell', cond_true, Nat.reduceEqDiff, ↓reduceIte, reduceCtorEq, ptr]
  refine vc_loop (ι := Nat × Int × Lay × PT × PH) (fun q => ⟨[(4, .g (.s (.pointer (some ⟨L0 .t, 0, none⟩)))), (5, .g (.s (.int .i64 (q.2.1)))), (16, .row 0 0 (ts.length)), (17, .g (.s (.int .i64 (ts.length)))), (18, .g (.s (.int .i64 (q.1))))], [(0, .ro 4 (gTreeNode zTreeNode) (ts.map gTreeNode))], [], q.2.2.2.2⟩)
    (fun q => q.1 ≤ ts.length ∧ q.2.2.1 .t = L0 .t ∧ TM q.2.2.2.2 q.2.2.1 q.2.2.2.1 ∧ rowsA T0 0 l = rowsA q.2.2.2.1 q.2.1 (l.drop q.1) ∧ ∀ n x, q.2.2.2.1.get n = some x → q.2.1 < n → T0.get n = some x) (fun q => ts.length - q.1) (0, 0, L0, T0, m1) ⟨by simp, rfl, hT0, rfl, fun n x hx _ => hx⟩ (ge_of ?_ ?_ rfl rfl rfl) ?_
  · simp [frIn, look]
  · simp [pvIn, look]
  rintro ⟨i, last, L, T, mA⟩ ⟨hi, hLt, hT, hrow, hnew⟩
  simp only at hi hLt hT hrow hnew
  generalize hQ : loopQ _ _ _ _ _ = Q
  simp (maxSteps := 2000000) only [c_tree_From_L1, vc_skip, vc_ret, vc_exit, vc_seq, vc_block, vc_rg, vc_rgq, vc_ite, thenQ_n, thenQ_r, thenQ_e, blockQ_r, kKeep_eq, segs_nil, segs_n, segs_g, ops_nil, ops_cons, qsegs_nil, qsegs_n, qsegs_g, qops_nil, qops_cons, vcqOp, vcOp, isRd, RO.isGh, skip_mk, skipL, ev, look, updL, put_mk, put_mk0, keep_mk, keepL, rowE, rowD, binV, binC, GV.getT, Value.oneCell', cond_true, cond_false, Nat.reduceEqDiff, ↓reduceIte, reduceCtorEq, List.nil_append, Nat.zero_add, Bool.and_true, Bool.true_and, Bool.not_false, true_and, and_true, Int.toNat_natCast, decide_eq_true_eq, decide_eq_false_iff_not, ↓br_tt, ↓br_tf, br_t, br_f, getT_nil, setT_nil, fits_s, gTreeNode_sz, gTreeNode_fits, gTreeNode_same, gTreeNode_fld0, gTreeNode_get0, gTreeNode_zero, getD_gTreeNode]
  refine ⟨fun hlt => ⟨⟨by omega, by omega⟩, ?_⟩, fun hge => ?_⟩
  · obtain ⟨t, ht⟩ : ∃ t, ts.getD i zTreeNode = t := ⟨_, rfl⟩
    obtain ⟨r, hr⟩ : ∃ r, l.getD i zTN = r := ⟨_, rfl⟩
    have hrm : r ∈ l := by rw [← hr, List.getD_eq_getElem?_getD, List.getElem?_eq_getElem (by omega)]; exact List.getElem_mem _
    obtain ⟨e1, e2, e3, hsl⟩ := hts.at i (by omega)
    rw [ht, hr] at e1 e2 e3 hsl
    have hdrop : l.drop i = r :: l.drop (i + 1) := by
      rw [← hr, List.getD_eq_getElem?_getD, List.getElem?_eq_getElem (by omega)]
      exact List.drop_eq_getElem_cons (by omega)
    rw [ht]
    have stop : (rowA last r && attrsA ⟨#[]⟩ r.attrs) = false → ¬ fromA l := by
      rintro hb ⟨T', h1, _⟩
      rw [hrow, hdrop, rowsA, if_neg (by rw [hb]; simp)] at h1
      cases h1
    have hra : rowA last r = (!decide (t.node ≤ last) && (topB t.node == (decide (t.parent = 0) && decide (t.name = ⟨#[]⟩))) && (topB t.node || nameB t.name)) := by rw [e1, e2, e3]; rfl
    have hnb : t.name.size ≤ 140737488355328 := by rw [e3]; exact hnm r hrm
    have good : rowA last r = true → ∀ σ : SS, Ge σ ⟨[(4, .g (.s (.pointer (some ⟨L0 .t, 0, none⟩)))), (7, .ref 7 []), (16, .row 0 0 (ts.length)), (17, .g (.s (.int .i64 (ts.length)))), (18, .g (.s (.int .i64 (i))))], [(0, .ro 4 (gTreeNode zTreeNode) (ts.map gTreeNode)), (7, .box (gTreeNode t))], [], mA⟩ →
        vc ⟨Tryz.prog, 148, w, PH.no⟩ c_tree_From_R8 (blockQ 1 (thenQ (vc ⟨Tryz.prog, 148, w, PH.no⟩ (.rg [⟨none, [(some 114, .bin .add (.t 18) (.c (.int .i64 1))), (some 18, .mv (.t 114))]⟩] [4, 5, 16, 17, 18]) Q) Q)) σ := by
      intro hrA σ hσ
      unfold c_tree_From_R8
      rw [vc_seq]
      refine vc_gh_of_ge hσ ?_
      simp (maxSteps := 2000000) only [vc_seq, vc_rg, vc_rgq, thenQ_n, kKeep_eq, segs_nil, segs_n, ops_nil, ops_cons, qsegs_n, qops_cons, vcqOp, vcOp, isRd, ev, look, put_mk, keep_mk, keepL, GV.getT, Nat.reduceEqDiff, ↓reduceIte, reduceCtorEq, List.nil_append, Nat.add_zero, Bool.true_and, Bool.not_false, true_and, getT_nil, fits_s, gTreeNode_fld0, gTreeNode_get0]
      have hlast := rowA_last hrA
      have hsm : Seen ⟨Tryz.prog, 148, w, PH.no⟩ [] mA (L0 .t) 0 (.s (.map (some (L .nb)))) := by rw [← hLt]; exact hT.s_map kn_m
      refine ld_of _ hsm rfl ?_
      simp (maxSteps := 2000000) only [segs_n, ops_cons, qsegs_nil, qops_nil, qops_cons, vcqOp, vcOp, isRd, ev, look, put_mk, GV.getT, Nat.reduceEqDiff, ↓reduceIte, reduceCtorEq, List.nil_append, Bool.true_and, Bool.not_false, true_and, getT_nil, fits_s, gTreeNode_fld0, gTreeNode_get0]
      refine hT.lk kn_m _ ?_
      simp (maxSteps := 2000000) only [vc_seq, vc_rg, thenQ_n, kKeep_eq, segs_nil, segs_n, ops_nil, ops_cons, vcOp, ev, look, put_mk, keep_mk, keepL, Value.oneCell', cond_true, Nat.reduceEqDiff, ↓reduceIte]
      have rest : ∀ (m2 : PH) (L2 : Lay), L2 .t = L0 .t → TM m2 L2 (T.sure t.node) → ∀ σ : SS, Ge σ ⟨[(4, .g (.s (.pointer (some ⟨L0 .t, 0, none⟩)))), (5, .g (.s (.int .i64 (t.node)))), (7, .ref 7 []), (8, .g (.s (.pointer (some ⟨L2 (.nd t.node), 0, none⟩)))), (16, .row 0 0 (ts.length)), (17, .g (.s (.int .i64 (ts.length)))), (18, .g (.s (.int .i64 (i))))], [(0, .ro 4 (gTreeNode zTreeNode) (ts.map gTreeNode)), (7, .box (gTreeNode t))], [], m2⟩ →
          vc ⟨Tryz.prog, 148, w, PH.no⟩ c_tree_From_R13 (blockQ 1 (thenQ (vc ⟨Tryz.prog, 148, w, PH.no⟩ (.rg [⟨none, [(some 114, .bin .add (.t 18) (.c (.int .i64 1))), (some 18, .mv (.t 114))]⟩] [4, 5, 16, 17, 18]) Q) Q)) σ := by
        intro m2 L2 hL2 hT2 σ hσ
        unfold c_tree_From_R13
        rw [vc_seq]
        refine vc_gh_of_ge hσ ?_
        simp (maxSteps := 2000000) only [vc_rg, segs_n, ops_cons, vcOp, ev, evL, gvL, look, put_mk, GV.getT, GV.same, Nat.reduceEqDiff, ↓reduceIte, reduceCtorEq, List.nil_append, Nat.add_zero, Bool.and_true, Bool.true_and, Bool.not_false, true_and, and_true, List.map_cons, List.map_nil, Option.map_some, GV.bldT, GV.bldC, same_int, getT_nil, fits_s, gPlace_get0, gPlace_set0, gPlace_get1, gPlace_set1, gPlace_zero, gTreeNode_fld1, gTreeNode_get1, gTreeNode_fld2, gTreeNode_get2]
        obtain ⟨x2, hx2⟩ : ∃ x2, (T.sure t.node).get t.node = some x2 := ⟨_, by rw [get_sure, if_pos rfl]⟩
        refine ⟨⟨rfl, rfl⟩, hT2.place (p := ⟨t.parent, t.name⟩) hx2 fun m3 hT3 => ?_⟩
        simp (maxSteps := 2000000) only [vc_seq, vc_rg, thenQ_n, kKeep_eq, segs_nil, segs_n, ops_nil, ops_cons, vcOp, ev, look, put_mk, put_mk0, keep_mk, keepL, GV.getT, Value.oneCell', cond_true, Nat.reduceEqDiff, ↓reduceIte, reduceCtorEq, List.nil_append, Bool.true_and, Bool.not_false, true_and, getT_nil, fits_s, gTreeNode_fld3, gTreeNode_get3]
        refine gh_rk 80 80 (gAttr zAttr) rfl rfl hsl (kn_u hu) ?_
        simp (maxSteps := 2000000) only [List.length_map, vc_block, thenQ_n, kKeep_eq, segs_nil, ops_nil, ops_cons, vcOp, ev, look, put_mk, keep_mk, keepL, Value.oneCell', cond_true, Nat.reduceEqDiff, ↓reduceIte, List.length_map]
        have hal := hat r hrm
        have hT3' : TM m3 L2 (T.row r) := by rw [PT.row, ← e1, ← e2, ← e3]; exact hT3
        refine vc_loop (ι := Nat × ByteArray × PH) (fun q => ⟨[(4, .g (.s (.pointer (some ⟨L0 .t, 0, none⟩)))), (5, .g (.s (.int .i64 (t.node)))), (8, .g (.s (.pointer (some ⟨L2 (.nd t.node), 0, none⟩)))), (9, .g (.s (.string (q.2.1)))), (16, .row 0 0 (ts.length)), (17, .g (.s (.int .i64 (ts.length)))), (18, .g (.s (.int .i64 (i)))), (80, .row 80 0 (r.attrs.length)), (81, .g (.s (.int .i64 (r.attrs.length)))), (82, .g (.s (.int .i64 (q.1))))], [(0, .ro 4 (gTreeNode zTreeNode) (ts.map gTreeNode)), (80, .ro 2 (gAttr zAttr) (r.attrs.map gAttr))], [], q.2.2⟩)
          (fun q => q.1 ≤ r.attrs.length ∧ TM q.2.2 L2 ((T.row r).putAll r.node (r.attrs.take q.1)) ∧ attrsA ⟨#[]⟩ r.attrs = attrsA q.2.1 (r.attrs.drop q.1)) (fun q => r.attrs.length - q.1) (0, ⟨#[]⟩, m3) ⟨by simp, by simpa [PT.putAll] using hT3', rfl⟩ (ge_of ?_ ?_ rfl rfl rfl) ?_
        · simp [frIn, look]
        · simp [pvIn, look]
        rintro ⟨j, key, mB⟩ ⟨hj, hTB, hkey⟩
        simp only at hj hTB hkey
        generalize hQ2 : loopQ _ _ _ _ _ = Q2
        simp (maxSteps := 2000000) only [c_tree_From_L0, gAttr_zero, vc_skip, vc_ret, vc_exit, vc_seq, vc_block, vc_rg, vc_ite, thenQ_n, thenQ_r, thenQ_e, blockQ_r, kKeep_eq, segs_nil, segs_n, segs_g, ops_nil, ops_cons, vcOp, RO.isGh, skip_mk, skipL, ev, look, updL, put_mk, put_mk0, keep_mk, keepL, rowE, rowD, binV, binC, GV.getT, Value.oneCell', cond_true, cond_false, Nat.reduceEqDiff, ↓reduceIte, reduceCtorEq, List.nil_append, Nat.zero_add, Bool.and_true, Bool.true_and, Bool.not_false, true_and, and_true, Int.toNat_natCast, decide_eq_true_eq, decide_eq_false_iff_not, ↓br_tt, ↓br_tf, ↓br_ft, br_t, br_f, getT_nil, setT_nil, fits_s, gAttr_sz, gAttr_fits, gAttr_same, gAttr_fld0, gAttr_get0, gAttr_fld1, gAttr_get1, getD_gAttr]
        refine ⟨fun hlt2 => ⟨⟨by omega, by omega⟩, ?_⟩, fun hge2 => ?_⟩
        · obtain ⟨at_, hat_⟩ : ∃ a, r.attrs.getD j zAttr = a := ⟨_, rfl⟩
          have hdropA : r.attrs.drop j = at_ :: r.attrs.drop (j + 1) := by
            rw [← hat_, List.getD_eq_getElem?_getD, List.getElem?_eq_getElem (by omega)]
            exact List.drop_eq_getElem_cons (by omega)
          have htakeA : r.attrs.take (j + 1) = r.attrs.take j ++ [at_] := by
            rw [List.take_add_one, ← hat_, List.getD_eq_getElem?_getD, List.getElem?_eq_getElem (by omega)]; rfl
          rw [hat_]
          rw [hdropA, attrsA] at hkey
          have stopA : (!leB at_.key key && !decide (at_.value = ⟨#[]⟩) && pairB at_.key at_.value) = false → ¬ fromA l := fun h => stop (by rw [hkey, h, Bool.false_and, Bool.and_false])
          refine ⟨fun h1 => ⟨fun h2 => ?_, fun h2 => ?_⟩, fun h1 => ?_⟩
          · refine call_fnv (pair_fn at_.key at_.value) rfl rfl rfl fun _ => ?_
            simp (maxSteps := 2000000) only [retS, vc_skip, vc_ret, vc_seq, vc_rg, vc_rgq, vc_ite, thenQ_n, thenQ_r, blockQ_r, kKeep_eq, segs_nil, segs_n, ops_nil, ops_cons, qsegs_n, qops_cons, vcqOp, vcOp, isRd, ev, look, put_mk, keep_mk, keepL, unV, GV.getT, Value.oneCell', cond_true, Nat.reduceEqDiff, ↓reduceIte, reduceCtorEq, List.nil_append, Nat.zero_add, Bool.true_and, Bool.not_false, true_and, ↓br_ft, br_t, getT_nil, fits_s, gAttr_fld0, gAttr_get0]
            refine ⟨fun h3 => ?_, fun h3 => ?_⟩
            · subst hQ2; subst hQ
              simp (maxSteps := 2000000) only [thenQ_r, blockQ_r, loopQ_r, finQ_r]
              exact fin_g rfl ⟨fun h => absurd h (stopA (by rw [show pairB at_.key at_.value = false by simpa using h3, Bool.and_false])), fun _ => rfl⟩
            · have hpp : pairB at_.key at_.value = true := by simpa using h3
              have hr0 : ((T.row r).putAll r.node (r.attrs.take j)).get t.node ≠ none := by
                rw [get_putAll, e1, if_pos rfl, PT.row, get_place, if_pos rfl, get_sure, if_pos rfl]
                simp
              obtain ⟨xb, hxb⟩ := Option.ne_none_iff_exists'.1 hr0
              refine ld_of _ (hTB.s_node kn_m hxb).2.2.1 rfl ?_
              simp (maxSteps := 2000000) only [segs_n, ops_cons, qsegs_nil, qops_nil, qops_cons, vcqOp, vcOp, isRd, ev, look, put_mk, GV.getT, Nat.reduceEqDiff, ↓reduceIte, reduceCtorEq, List.nil_append, Bool.true_and, Bool.not_false, true_and, getT_nil, fits_s, gAttr_fld0, gAttr_get0, gAttr_fld1, gAttr_get1]
              refine hTB.attrPut h2 hxb fun mC hTC => ?_
              simp (maxSteps := 2000000) only [vc_rg, thenQ_n, blockQ_n, kKeep_eq, segs_nil, segs_n, ops_nil, ops_cons, vcOp, ev, look, put_mk, put_mk0, keep_mk, keepL, binV, binC, Value.oneCell', cond_true, Nat.reduceEqDiff, ↓reduceIte, Bool.true_and, true_and]
              subst hQ2; simp only [loopQ_n]
              refine ⟨(j + 1, at_.key, mC), ⟨by simp only; omega, ?_, ?_⟩, ?_, ge_of ?_ ?_ rfl rfl rfl⟩
              · simp only
                rw [e1] at hTC
                rw [htakeA, show (T.row r).putAll r.node (r.attrs.take j ++ [at_]) = ((T.row r).putAll r.node (r.attrs.take j)).attr r.node at_.key at_.value from by simp [PT.putAll]]
                exact hTC
              · simp only
                rw [hkey, show leB at_.key key = false from h1, decide_eq_false h2, hpp]; rfl
              · simp only; omega
              · simp only [frIn, look, Nat.reduceEqDiff, ↓reduceIte, Bool.and_true, Bool.true_and, true_and, and_true]
                rw [wrap_n (by omega)]
                try simp
              · simp [pvIn, look]
          · subst hQ2; subst hQ
            simp (maxSteps := 2000000) only [thenQ_r, blockQ_r, loopQ_r, finQ_r]
            exact fin_g rfl ⟨fun h => absurd h (stopA (by rw [decide_eq_true h2, Bool.not_true, Bool.and_false, Bool.false_and])), fun _ => rfl⟩
          · subst hQ2; subst hQ
            simp (maxSteps := 2000000) only [thenQ_r, blockQ_r, loopQ_r, finQ_r]
            exact fin_g rfl ⟨fun h => absurd h (stopA (by rw [show leB at_.key key = true from h1, Bool.not_true, Bool.false_and, Bool.false_and])), fun _ => rfl⟩
        · subst hQ2
          simp (maxSteps := 2000000) only [vc_rg, thenQ_n, blockQ_n, blockQ_e, kKeep_eq, loopQ_e, segs_nil, segs_n, ops_nil, ops_cons, vcOp, ev, look, put_mk, keep_mk, keepL, binV, binC, Value.oneCell', cond_true, Nat.reduceEqDiff, ↓reduceIte, Bool.true_and, true_and]
          have hj' : j = r.attrs.length := by omega
          subst hj'
          rw [List.take_length] at hTB
          rw [List.drop_length] at hkey
          have hgr := fun q => get_row (T := T) (r := r) (fun x hx => by
            have := hnew _ x hx hlast
            rw [T0_get this]; exact ⟨rfl, rfl⟩) q
          subst hQ; simp only [loopQ_n]; refine ⟨(i + 1, t.node, L2, (T.row r).putAll r.node r.attrs, mB), ?_, ?_, ge_of ?_ ?_ rfl rfl rfl⟩
          · refine ⟨by simp only; omega, hL2, hTB, ?_, fun n x hx hn => ?_⟩
            · simp only
              rw [hrow, hdrop, rowsA, if_pos (by rw [hrA, hkey]; rfl), e1]
            · simp only at hx hn
              rw [hgr, if_neg (by omega)] at hx
              exact hnew n x hx (by omega)
          · simp only; omega
          · simp only [frIn, look, Nat.reduceEqDiff, ↓reduceIte, Bool.and_true, Bool.true_and, true_and, and_true]
            rw [wrap_n (by omega)]
            try simp
          · simp [pvIn, look]
      cases hg : T.get t.node with
      | some x =>
        simp (maxSteps := 2000000) only [nptr_some]
        refine eq_of (eqNode _) ?_
        simp (maxSteps := 2000000) only [vc_skip, vc_ite, thenQ_n, kKeep_eq, segs_nil, ops_nil, ev, look, put_mk, keep_mk, keepL, Nat.reduceEqDiff, ↓reduceIte, ↓br_ft, Bool.bne_false]
        exact rest mA L hLt (by rw [PT.sure, hg]; exact hT) _ (ge_of (by simp [frIn, look]) (by simp [pvIn, look]) rfl rfl rfl)
      | none =>
        simp (maxSteps := 2000000) only [nptr_none]
        refine eq_of eqNode0 ?_
        simp (maxSteps := 2000000) only [vc_seq, vc_rg, vc_ite, thenQ_n, kKeep_eq, segs_nil, segs_n, ops_nil, ops_cons, vcOp, ev, look, put_mk, keep_mk, keepL, Nat.reduceEqDiff, ↓reduceIte, ↓br_tt, Bool.bne_false]
        refine call_ownm rfl rfl (Q := fun rs m' => ∃ b a k, rs = [.s (ptr b)] ∧ BareM m' b a k) (fun w' vs hv hw _ _ => by obtain rfl := argsV_nil hv; exact bare_spec w') fun rs mb _ hq hdb => ?_
        obtain ⟨b, a, kk, rfl, hbm⟩ := hq
        simp (maxSteps := 2000000) only [retS, vc_rgq, thenQ_n, kKeep_eq, segs_nil, ops_nil, ops_cons, qsegs_n, qops_cons, vcqOp, vcOp, isRd, ev, look, put_mk, keep_mk, keepL, Nat.reduceEqDiff, ↓reduceIte, Nat.add_zero, Bool.true_and, true_and, ptr]
        refine ld_of _ (by rw [← hLt]; exact hT.s_map (kn_uni hdb)) rfl ?_
        simp (maxSteps := 2000000) only [segs_n, ops_cons, qsegs_nil, qops_nil, qops_cons, vcqOp, vcOp, isRd, ev, look, put_mk, GV.getT, Nat.reduceEqDiff, ↓reduceIte, reduceCtorEq, List.nil_append, Bool.true_and, Bool.not_false, true_and, getT_nil, fits_s, gTreeNode_fld0, gTreeNode_get0]
        refine hT.mupAdd hbm hdb hg rfl fun m3 hT3 => ?_
        simp (maxSteps := 2000000) only [thenQ_n, kKeep_eq, segs_nil, ops_nil, look, put_mk0, keep_mk, keepL, Nat.reduceEqDiff, ↓reduceIte]
        exact rest m3 (L.add t.node b a kk) hLt (by rw [PT.sure, hg]; exact hT3) _ (ge_of (by simp [frIn, look, Lay.add]) (by simp [pvIn, look]) rfl rfl rfl)
    have bad : rowA last r = false → finQ ⟨Tryz.prog, 148, w, PH.no⟩ [.tmp 2, .tmp 3] (fun rs m' => (fromA l → ∃ L T, rs = [.s (.pointer (some ⟨L .t, 0, none⟩)), .s (.int .i64 0)] ∧ TM m' L T ∧ T.ok k ∧ VGood T.view ∧ T.kidsOk ∧ T.view = viewOf l) ∧ (¬ fromA l → rs = [.s (.pointer none), .s (.int .i64 121)])) .ret ⟨[(2, .g (.s (.pointer none))), (3, .g (.s (.int .i64 (121))))], [(0, .ro 4 (gTreeNode zTreeNode) (ts.map gTreeNode)), (7, .box (gTreeNode t))], [], mA⟩ := by
      intro hrA
      simp (maxSteps := 2000000) only [finQ_r]
      exact fin_g rfl ⟨fun h => absurd h (stop (by rw [hrA]; rfl)), fun _ => rfl⟩
    refine ⟨fun k1 => ?_, fun k1 => ?_⟩
    · refine callq_fnv (top_fn t.node) rfl rfl rfl ?_
      simp (maxSteps := 2000000) only [segs_g, ops_nil, ops_cons, qsegs_nil, qops_nil, qops_cons, vcqOp, vcOp, isRd, RO.isGh, skip_mk, skipL, ev, look, put_mk, binV, binC, GV.getT, Value.oneCell', cond_true, cond_false, Nat.reduceEqDiff, ↓reduceIte, reduceCtorEq, List.nil_append, Bool.true_and, Bool.not_true, Bool.not_false, true_and, ↓br_tt, ↓br_ff, ↓br_ft, br_t, getT_nil, fits_s, gTreeNode_fld1, gTreeNode_get1, gTreeNode_fld2, gTreeNode_get2]
      rw [decide_eq_false k1] at hra
      rw [← topB]
      have hpb : (t.parent == 0) = decide (t.parent = 0) := rfl
      rw [hpb]
      cases htop : topB t.node <;> cases hp : decide (t.parent = 0) <;> cases hd : decide (t.name = ⟨#[]⟩) <;> rw [htop, hp, hd] at hra
      all_goals
        simp (maxSteps := 2000000) only [Bool.and_true, Bool.true_and, true_and, and_true, true_imp_iff, false_imp_iff, Bool.true_eq_false, Bool.false_eq_true]
        refine eq_of (eqG_bool Tryz.underlying4 _ _) ?_
        simp (maxSteps := 2000000) only [beq_self_eq_true, show (false == true) = false from rfl, show (true == false) = false from rfl, vc_ret, vc_seq, vc_rg, vc_ite, thenQ_n, thenQ_r, blockQ_r, kKeep_eq, segs_nil, segs_n, segs_g, ops_nil, ops_cons, vcOp, RO.isGh, skip_mk, skipL, ev, look, put_mk, keep_mk, keepL, GV.getT, Value.oneCell', cond_true, cond_false, Nat.reduceEqDiff, ↓reduceIte, reduceCtorEq, List.nil_append, Bool.true_and, Bool.not_true, Bool.not_false, true_and, ↓br_tt, ↓br_ff, ↓br_tf, ↓br_ft, Bool.bne_true, getT_nil, fits_s, gTreeNode_fld0, gTreeNode_get0]
      all_goals first
        | (subst hQ; simp (maxSteps := 2000000) only [thenQ_r, blockQ_r, loopQ_r, finQ_r]; exact fin_g rfl ⟨fun h => absurd h (stop (by rw [hra]; rfl)), fun _ => rfl⟩)
        | (refine call_fnv (top_fn t.node) rfl rfl rfl fun _ => ?_; rw [← topB, htop]; simp (maxSteps := 2000000) only [retS, vc_skip, vc_ite, thenQ_n, kKeep_eq, segs_nil, segs_n, segs_g, ops_nil, ops_cons, vcOp, RO.isGh, skip_mk, skipL, ev, look, put_mk, keep_mk, keepL, unV, GV.getT, Value.oneCell', cond_true, cond_false, Nat.reduceEqDiff, ↓reduceIte, reduceCtorEq, List.nil_append, Bool.true_and, Bool.not_true, Bool.not_false, true_and, ↓br_tt, ↓br_ff, ↓br_ft, getT_nil, fits_s, gTreeNode_fld2, gTreeNode_get2])
      all_goals first
        | exact good hra _ (ge_of (by simp [frIn, look]) (by simp [pvIn, look]) rfl rfl rfl)
        | (refine call_fnv (NameB_fn t.name hnb) rfl rfl rfl fun _ => ?_; simp (maxSteps := 2000000) only [retS, vc_skip, vc_ret, vc_seq, vc_rg, vc_ite, thenQ_n, thenQ_r, blockQ_r, kKeep_eq, segs_nil, segs_n, segs_g, ops_nil, ops_cons, vcOp, ev, look, put_mk, keep_mk, keepL, unV, Value.oneCell', cond_true, Nat.reduceEqDiff, ↓reduceIte, ↓br_tt, ↓br_ff, ↓br_ft, br_t])
      all_goals
        refine ⟨fun kn => ?_, fun kn => good (by rw [hra]; simpa using kn) _ (ge_of (by simp [frIn, look]) (by simp [pvIn, look]) rfl rfl rfl)⟩
        subst hQ; simp (maxSteps := 2000000) only [thenQ_r, blockQ_r, loopQ_r, finQ_r]
        exact fin_g rfl ⟨fun h => absurd h (stop (by rw [hra, show nameB t.name = false by simpa using kn]; rfl)), fun _ => rfl⟩
    · subst hQ
      simp (maxSteps := 2000000) only [thenQ_r, blockQ_r, loopQ_r, finQ_r]
      refine fin_g rfl ⟨fun h => absurd h (stop ?_), fun _ => rfl⟩
      rw [hra, decide_eq_true k1]; rfl
  · subst hQ
    simp (maxSteps := 2000000) only [vc_seq, vc_rg, thenQ_n, blockQ_e, loopQ_e, segs_n, ops_cons, vcOp, ev, look, put_mk, ↓reduceIte, Nat.add_zero]
    have hi' : i = l.length := by omega
    subst hi'
    rw [List.drop_length, rowsA] at hrow
    have hR := rowsA_rowed hrow
    have hok := hR.ok hlen hat hwf
    have hsm : Seen ⟨Tryz.prog, 148, w, PH.no⟩ [] mA (L0 .t) 0 (.s (.map (some (L .nb)))) := by rw [← hLt]; exact hT.s_map kn_m
    refine ld_of _ hsm rfl ?_
    simp (maxSteps := 2000000) only [ops_cons, vcOp, ev, look, put_mk, ↓reduceIte]
    obtain ⟨ob, idsV, hob, hmap⟩ := hT.at .nb trivial
    have hmap : MapI (some .i64) ob (rawS L (T.nodes.map (·.1))) := by rw [← rawN_S]; exact hmap
    refine ⟨ob, _, .inl hob, hmap, fun rr it hit hdr => ?_⟩
    simp (maxSteps := 2000000) only [vc_block, thenQ_n, kKeep_eq, segs_nil, ops_nil, look, put_mk, keep_mk, keepL, Nat.reduceEqDiff, ↓reduceIte]
    refine vc_loop (ι := List Int × Obj × PT × PH) (fun q => ⟨[(4, .g (.s (.pointer (some ⟨L0 .t, 0, none⟩)))), (119, .g (.s (.pointer (some ⟨rr, 0, none⟩))))], [(0, .ro 4 (gTreeNode zTreeNode) (ts.map gTreeNode))], [], uni (one rr q.2.1) q.2.2.2⟩)
      (fun q => IterM q.2.1 ob (L .nb) (rawS L q.1) ∧ q.2.2.2 (L .nb) = some ob ∧ TM q.2.2.2 L q.2.2.1 ∧ KidsUp T q.2.2.1 q.1 ∧ dis (one rr q.2.1) q.2.2.2) (fun q => T.nodes.length - q.1.length) ([], it, T, mA) ⟨hit, hob, hT, KidsUp.begin fun n x hx => ?_, hdr⟩ (ge_of ?_ ?_ rfl rfl rfl) ?_
    · rw [hR.get] at hx
      rcases rowGet_cases hx with ⟨q, _, _, rfl⟩ | e
      · rfl
      · rw [T0_get e]; rfl
    · simp [frIn, look]
    · simp [pvIn, look]
    clear hT hob hit hdr hsm
    rintro ⟨s, it, T2, mB⟩ ⟨hI, hob, hT, hU, hdr⟩
    simp only at hI hob hT hU hdr
    generalize hQ : loopQ _ _ _ _ _ = Q
    simp (maxSteps := 2000000) only [c_tree_From_L2, vc_seq, vc_rg, segs_n, ops_cons, vcOp, ev, look, Nat.reduceEqDiff, ↓reduceIte]
    refine ⟨it, _, ob, _, _, _, uni_one_self _ _ _, .inl ((uni_r hdr hob).1), hmap, hI, fun hp => ?_, fun p it' hp hps hit' => ?_⟩
    · simp (maxSteps := 2000000) only [List.getElem?_cons_zero, vc_exit, vc_seq, vc_ite, thenQ_n, thenQ_e, kKeep_eq, segs_nil, ops_nil, ops_cons, vcOp, ev, look, put_mk, keep_mk, keepL, Nat.reduceEqDiff, ↓reduceIte, ↓br_ft]
      subst hQ
      simp (maxSteps := 2000000) only [vc_seq, vc_rg, thenQ_n, blockQ_e, loopQ_e, segs_n, ops_cons, vcOp, ev, look, put_mk, ↓reduceIte]
      have hperm := rawS_perm hp
      have hin : ∀ c y, T.get c = some y → c ∈ s := fun c y hy => hperm.mem_iff.2 (List.mem_map.2 ⟨(c, y), getA_mem hy, rfl⟩)
      have hkids := hU.kids hin
      have hok2 := hU.ok hok
      have hone : ∀ n, T0.get n ≠ none → T2.get n ≠ none := fun n hn e => by
        rw [← PT.view_none, hU.view, PT.view_none, hR.get] at e
        exact hn (rowGet_no e)
      have hfew := hok2.many
      have hW : ∀ w' : World, mB.le w' → Spec Tryz.prog f_tree_Tree_whole [ptr (L0 .t)] PH.no w' fun rs _ => ∃ b, rs = [.s (.bool b)] ∧ (b = true ↔ T2.led) := fun w' hw' => by
        have := whole_spec w' mB hw' L T2 hT hkids (hone 1 (by decide)) (hone 2 (by decide)) (by omega)
        rw [hLt] at this
        exact this
      have hled : T2.led ↔ T.led := by unfold PT.led; rw [hU.view]
      by_cases hl : T2.led
      · refine call_ism _ [.s (.bool true)] rfl rfl (fun w' vs hv _ _ hm => ?_) ?_
        · obtain ⟨vs, rfl, _, hv⟩ := argsV_g hv
          obtain rfl := argsV_nil hv
          refine (hW w' fun b o h => hm b o (sub_uni_r hdr b o h)).mono fun rs m' h => ?_
          obtain ⟨b, rfl, hb⟩ := h
          rw [hb.2 hl]
        simp (maxSteps := 2000000) only [retS, vc_skip, vc_ret, vc_seq, vc_rg, vc_ite, thenQ_n, kKeep_eq, finQ_r, segs_nil, segs_n, ops_nil, ops_cons, vcOp, ev, look, put_mk, keep_mk, keepL, unV, Value.oneCell', cond_true, Nat.reduceEqDiff, ↓reduceIte, Bool.not_true, ↓br_ft]
        have hl' := hled.1 hl
        refine fin_m mB rfl (sub_uni_r hdr) ⟨fun _ => ⟨L, T2, by rw [hLt], hT, hok2, ?_, hkids, ?_⟩, fun h => absurd ⟨T, hrow, hl'⟩ h⟩
        · rw [hU.view]; exact hR.good hl'
        · rw [hU.view]; exact hR.view
      · refine call_ism _ [.s (.bool false)] rfl rfl (fun w' vs hv _ _ hm => ?_) ?_
        · obtain ⟨vs, rfl, _, hv⟩ := argsV_g hv
          obtain rfl := argsV_nil hv
          refine (hW w' fun b o h => hm b o (sub_uni_r hdr b o h)).mono fun rs m' h => ?_
          obtain ⟨b, rfl, hb⟩ := h
          cases b with
          | false => rfl
          | true => exact absurd (hb.1 rfl) hl
        simp (maxSteps := 2000000) only [retS, vc_ret, vc_seq, vc_rg, vc_ite, thenQ_n, thenQ_r, kKeep_eq, finQ_r, segs_nil, segs_n, ops_nil, ops_cons, vcOp, ev, look, put_mk, keep_mk, keepL, unV, Value.oneCell', cond_true, Nat.reduceEqDiff, ↓reduceIte, Bool.not_false, ↓br_tt]
        refine fin_g rfl ⟨fun h => ?_, fun _ => rfl⟩
        obtain ⟨T', h1, h2⟩ := h
        rw [hrow] at h1
        cases h1
        exact absurd (hled.2 h2) hl
    · obtain ⟨c, hc, rfl⟩ := mem_rawS hp
      obtain ⟨⟨c', x⟩, hcx, hcc⟩ := List.mem_map.1 hc
      simp only at hcc
      subst hcc
      have hx : T.get c' = some x := getA_of_mem hok.nod hcx
      have hcs : c' ∉ s := fun h => hps (List.mem_map.2 ⟨c', h, rfl⟩)
      have hit2 : IterM it' ob (L .nb) (rawS L (s ++ [c'])) := by
        have e : rawS L (s ++ [c']) = rawS L s ++ [(.int .i64 c', ptr (L (.nd c')))] := by simp [rawS]
        rw [e]; exact hit'
      have hlen2 := hit2.le hmap
      simp only [rawS, List.length_map, List.length_append, List.length_cons, List.length_nil] at hlen2
      have hdr' : dis (one rr it') mB := dis_one_of hdr
      simp (maxSteps := 2000000) only [List.getElem?_cons_zero, vc_skip, vc_seq, vc_block, vc_rg, vc_ite, thenQ_n, kKeep_eq, segs_nil, segs_n, ops_nil, ops_cons, vcOp, ev, look, put_mk, keep_mk, keepL, Nat.reduceEqDiff, ↓reduceIte, ↓br_tt, ptr]
      rw [uni_one_upd]
      refine ⟨it', _, ob, _, _, _, _, .inl (uni_one_self _ _ _), .inl ((uni_r hdr' hob).1), hmap, hit', ?_⟩
      simp (maxSteps := 2000000) only [List.getElem?_cons_zero, List.getElem?_cons_succ, vc_seq, vc_rg, thenQ_n, kKeep_eq, segs_nil, segs_n, ops_nil, ops_cons, vcOp, ev, look, put_mk, keep_mk, keepL, Nat.reduceEqDiff, ↓reduceIte, ptr]
      refine call_fnv (top_fn c') rfl rfl rfl fun _ => ?_
      rw [← topB]
      simp (maxSteps := 2000000) only [retS, vc_skip, vc_exit, vc_seq, vc_rgq, vc_ite, thenQ_n, thenQ_e, blockQ_e, kKeep_eq, segs_nil, ops_nil, qsegs_n, qops_cons, vcqOp, vcOp, isRd, ev, look, put_mk, keep_mk, keepL, Nat.reduceEqDiff, ↓reduceIte, Nat.add_zero, Bool.true_and, true_and, br_t]
      refine ⟨fun htop => ?_, fun htop => ?_⟩
      · subst hQ; simp only [loopQ_n]; refine ⟨(s ++ [c'], it', T2, mB), ?_, ?_, ge_of ?_ ?_ rfl rfl rfl⟩
        · exact ⟨hit2, hob, hT, hU.top htop, hdr'⟩
        · simp only [List.length_append, List.length_cons, List.length_nil]; omega
        · simp [frIn, look]
        · simp [pvIn, look]
      · obtain ⟨ks, hx2, _⟩ := hU.get c' x hx
        refine ld_of _ (by rw [← hLt]; exact hT.s_map (kn_uni hdr')) rfl ?_
        simp (maxSteps := 2000000) only [qops_cons, vcqOp, vcOp, isRd, ev, look, put_mk, Nat.reduceEqDiff, ↓reduceIte, Nat.add_zero, Bool.true_and, true_and]
        refine ld_of _ (hT.s_node (kn_uni hdr') hx2).1 rfl ?_
        simp (maxSteps := 2000000) only [segs_n, ops_cons, qsegs_nil, qops_nil, vcOp, ev, look, put_mk, Nat.reduceEqDiff, ↓reduceIte]
        refine hT.lk (kn_uni hdr') _ ?_
        cases hg : T2.get x.parent with
        | none =>
          simp (maxSteps := 2000000) only [vc_seq, vc_rg, thenQ_n, kKeep_eq, segs_nil, segs_n, ops_nil, ops_cons, vcOp, ev, look, put_mk, keep_mk, keepL, Value.oneCell', cond_true, Nat.reduceEqDiff, ↓reduceIte, nptr_none]
          refine eq_of eqNode0 ?_
          simp (maxSteps := 2000000) only [vc_ret, vc_seq, vc_rg, vc_ite, thenQ_n, thenQ_r, blockQ_r, kKeep_eq, segs_nil, segs_n, ops_nil, ops_cons, vcOp, ev, look, put_mk, keep_mk, keepL, Value.oneCell', cond_true, Nat.reduceEqDiff, ↓reduceIte, ↓br_tt, Bool.bne_false]
          subst hQ
          simp (maxSteps := 2000000) only [thenQ_r, blockQ_r, loopQ_r, finQ_r]
          refine fin_g rfl ⟨fun h => ?_, fun _ => rfl⟩
          obtain ⟨T', h1, h2⟩ := h
          rw [hrow] at h1
          cases h1
          obtain ⟨kk, hkk⟩ := h2 c' (by rw [PT.view_get hx]; simp)
          have hpn : T.view x.parent = none := by rw [← hU.view, PT.view_none]; exact hg
          exact (led_parent hkk htop (PT.view_get hx) (fun ht => by
            rw [PT.view_none, hR.get] at hpn
            have := rowGet_no hpn
            rcases topB_iff.1 ht with e | e <;> rw [show (PN.view x).parent = x.parent from rfl] at e <;> rw [e] at this <;> cases this) hpn).elim
        | some y =>
          simp (maxSteps := 2000000) only [vc_seq, vc_rg, thenQ_n, kKeep_eq, segs_nil, segs_n, ops_nil, ops_cons, vcOp, ev, look, put_mk, keep_mk, keepL, Value.oneCell', cond_true, Nat.reduceEqDiff, ↓reduceIte, nptr_some]
          refine eq_of (eqNode _) ?_
          simp (maxSteps := 2000000) only [vc_skip, vc_rg, vc_ite, thenQ_n, kKeep_eq, segs_nil, segs_n, ops_nil, ops_cons, vcOp, ev, look, put_mk, keep_mk, keepL, Nat.reduceEqDiff, ↓reduceIte, Nat.zero_add, ↓br_ft, Bool.bne_false]
          refine ld_of _ (hT.s_node (kn_uni hdr') hg).2.2.2.1 rfl ?_
          simp (maxSteps := 2000000) only [ops_cons, vcOp, ev, look, put_mk, Value.oneCell', cond_true, Nat.reduceEqDiff, ↓reduceIte]
          obtain ⟨ok, ho1, ho2, ho3⟩ := hT.kidAt (n := c') hg
          refine ⟨ok, _, (uni_r hdr' ho1).1, ho2, rfl, fun o' ho' => ?_⟩
          have hone : one rr it' (L (.kb x.parent)) = none := (uni_r hdr' ho1).2
          rw [uni_upd hone]
          simp (maxSteps := 2000000) only [blockQ_n, kKeep_eq, segs_nil, ops_nil, look, put_mk0, keep_mk, keepL, Nat.reduceEqDiff, ↓reduceIte]
          subst hQ; simp only [loopQ_n]; refine ⟨(s ++ [c'], it', T2.kid x.parent c', mB.upd (L (.kb x.parent)) o'), ?_, ?_, ge_of ?_ ?_ rfl rfl rfl⟩
          · refine ⟨hit2, ?_, ho3 o' ho', hU.kid htop hx hcs, dis_upd hdr' hone⟩
            simp only
            rw [upd_ne (hT.ne (r := .nb) (s := .kb x.parent) trivial ⟨y, hg⟩ (by simp))]
            exact hob
          · simp only [List.length_append, List.length_cons, List.length_nil]; omega
          · simp [frIn, look]
          · simp [pvIn, look]
end Go.Proofs.YtmjiojflncffeaaGreat.Vc

/- What a tree tells makes that tree: plain. -/
set_option linter.unusedVariables false
set_option linter.unusedSimpArgs false
namespace Go.Proofs.YtmjiojflncffeaaGreat.Vc
open Go

theorem bytesLess_lt : ∀ (x y : List UInt8), _root_.Go.Op.bytesLess x y = decide (x < y)
  | [], [] => by simp [_root_.Go.Op.bytesLess]
  | _ :: _, [] => by simp [_root_.Go.Op.bytesLess]
  | [], _ :: _ => by simp [_root_.Go.Op.bytesLess]
  | a :: x, b :: y => by
    rw [_root_.Go.Op.bytesLess, bytesLess_lt x y]
    simp only [List.cons_lt_cons_iff]
    by_cases h1 : a < b <;> by_cases h2 : a = b <;> by_cases h3 : x < y <;> simp [h1, h2, h3]
theorem lt_of_le_ne {a b : List UInt8} (h : a ≤ b) (hn : a ≠ b) : a < b :=
  Classical.byContradiction fun hc => hn (List.le_antisymm h (show b ≤ a from hc))
theorem attrKeys_sorted {x : PN} (h : AttrOk x.attrs) : (attrKeys x).Pairwise (· < ·) := by
  have tr : ∀ a b c : List UInt8, decide (a ≤ b) = true → decide (b ≤ c) = true → decide (a ≤ c) = true := fun a b c h1 h2 => by simp only [decide_eq_true_eq] at *; exact List.le_trans h1 h2
  have to : ∀ a b : List UInt8, (decide (a ≤ b) || decide (b ≤ a)) = true := fun a b => by simp only [Bool.or_eq_true, decide_eq_true_eq]; exact List.le_total a b
  have h1 := List.pairwise_mergeSort tr to (x.attrs.map fun p => p.1.data.toList)
  have h2 : (attrKeys x).Nodup := by
    refine (List.mergeSort_perm _ _).nodup_iff.2 ?_
    have := h.nod
    rw [List.Nodup, List.pairwise_map] at this ⊢
    refine this.imp fun {a b} hab e => hab ?_
    have : a.1.data = b.1.data := Array.toList_inj.1 e
    exact ByteArray.ext this
  have h1 : (attrKeys x).Pairwise fun a b => decide (a ≤ b) = true := h1
  refine (h1.and h2).imp fun {a b} hab => lt_of_le_ne (of_decide_eq_true hab.1) hab.2
theorem mem_attrKeys {x : PN} {k : List UInt8} : k ∈ attrKeys x ↔ ∃ v, getS x.attrs (mkS k) = some v := by
  have h1 : k ∈ attrKeys x ↔ k ∈ x.attrs.map fun p => p.1.data.toList := (List.mergeSort_perm _ _).mem_iff
  rw [h1]
  have h2 := getS_none (l := x.attrs) (j := mkS k)
  constructor
  · intro h
    obtain ⟨p, hp, rfl⟩ := List.mem_map.1 h
    rw [← Option.ne_none_iff_exists']
    intro e
    refine h2.1 e (List.mem_map.2 ⟨p, hp, ?_⟩)
    exact ByteArray.ext (by simp [mkS])
  · rintro ⟨v, hv⟩
    refine Classical.byContradiction fun hc => ?_
    rw [h2.2 fun h => hc ?_] at hv
    · cases hv
    · obtain ⟨p, hp, e⟩ := List.mem_map.1 h
      exact List.mem_map.2 ⟨p, hp, by rw [e]; simp [mkS]⟩

theorem attrsA_of {f : List UInt8 → Attr} : ∀ (keys : List (List UInt8)) (prev : ByteArray), (∀ k ∈ keys, (f k).key.data.toList = k) → keys.Pairwise (· < ·) → (∀ k ∈ keys, prev.data.toList < k) → (∀ k ∈ keys, (f k).value ≠ ⟨#[]⟩ ∧ pairB (f k).key (f k).value = true) → attrsA prev (keys.map f) = true
  | [], _, _, _, _, _ => rfl
  | k :: l, prev, h1, h2, h3, h4 => by
    rw [List.pairwise_cons] at h2
    have e1 := h1 k (by simp)
    have e3 := h3 k (by simp)
    have e4 := h4 k (by simp)
    have ih := attrsA_of (f := f) l (f k).key (fun q hq => h1 q (by simp [hq])) h2.2 (fun q hq => by rw [e1]; exact h2.1 q hq) (fun q hq => h4 q (by simp [hq]))
    rw [List.map_cons, attrsA, ih, e4.2, decide_eq_false e4.1]
    have : leB (f k).key prev = false := by
      rw [leB, bytesLess_lt, e1, decide_eq_false (List.lt_asymm e3), decide_eq_false]
      · rfl
      · intro e
        rw [← e, e1] at e3
        exact List.lt_irrefl _ e3
    rw [this]; rfl
def lookA : List Attr → ByteArray → Option ByteArray
  | [], _ => none
  | a :: l, j => if a.key = j then some a.value else lookA l j
theorem attrsA_above : ∀ {l : List Attr} {k : ByteArray}, attrsA k l = true → ∀ a ∈ l, k.data.toList < a.key.data.toList
  | [], _, _, a, ha => by simp at ha
  | b :: l, k, h, a, ha => by
    obtain ⟨h1, _, _, h4⟩ := attrsA_cons h
    have hb : k.data.toList < b.key.data.toList := by
      rw [leB, bytesLess_lt, Bool.or_eq_false_iff] at h1
      refine lt_of_le_ne (show ¬ b.key.data.toList < k.data.toList from of_decide_eq_false h1.1) fun e => ?_
      exact of_decide_eq_false h1.2 (ByteArray.ext (Array.toList_inj.1 e.symm))
    rcases List.mem_cons.1 ha with rfl | ha
    · exact hb
    · exact List.lt_trans hb (attrsA_above h4 a ha)
theorem lookA_none : ∀ {l : List Attr} {j : ByteArray}, (∀ a ∈ l, a.key ≠ j) → lookA l j = none
  | [], _, _ => rfl
  | a :: l, j, h => by rw [lookA, if_neg (h a (by simp))]; exact lookA_none fun a ha => h a (by simp [ha])
theorem getS_laid : ∀ (l : List Attr) (s : List (ByteArray × ByteArray)) (k : ByteArray), AttrOk s → attrsA k l = true → ∀ j, getS (l.foldl (fun s a => setS s a.key a.value) s) j = (lookA l j).or (getS s j)
  | [], s, k, _, _, j => by simp [lookA]
  | a :: l, s, k, hs, h, j => by
    obtain ⟨_, hv, hp, h4⟩ := attrsA_cons h
    have hk : a.key.size ≤ 255 := by
      simp only [pairB, Bool.and_eq_true, decide_eq_true_eq] at hp
      exact hp.1.2
    rw [List.foldl_cons, getS_laid l (setS s a.key a.value) a.key (hs.set hk) h4 j, getS_set hs, lookA]
    by_cases e : a.key = j
    · subst e
      rw [lookA_none fun b hb e => by
        have := attrsA_above h4 b hb
        rw [e] at this
        exact List.lt_irrefl _ this]
      rw [if_pos rfl, if_pos rfl, if_neg (show ¬ a.value = empty from hv)]; rfl
    · rw [if_neg (fun q => e q.symm), if_neg e]
theorem laidA_get {l : List Attr} (h : attrsA ⟨#[]⟩ l = true) (j : ByteArray) : getS (laidA l) j = lookA l j := by
  have := getS_laid l [] ⟨#[]⟩ AttrOk.nil h j
  rw [laidA, this]
  cases lookA l j <;> rfl
theorem lookA_map {g : List UInt8 → ByteArray} : ∀ (keys : List (List UInt8)) (j : ByteArray), lookA (keys.map fun k => ⟨mkS k, g k⟩) j = if j.data.toList ∈ keys then some (g j.data.toList) else none
  | [], j => by simp [lookA]
  | k :: l, j => by
    rw [List.map_cons, lookA, lookA_map l j]
    by_cases e : mkS k = j
    · subst e; simp [mkS]
    · have : ¬ j.data.toList = k := fun q => e (ByteArray.ext (by rw [← q]; simp [mkS]))
      rw [if_neg e]
      simp [this]
theorem mkS_data (j : ByteArray) : mkS j.data.toList = j := ByteArray.ext (by simp [mkS])
theorem attrsOf_look (x : PN) (j : ByteArray) : lookA (attrsOf x) j = getS x.attrs j := by
  rw [attrsOf, lookA_map]
  have := mem_attrKeys (x := x) (k := j.data.toList)
  rw [mkS_data] at this
  split
  · rename_i h
    obtain ⟨v, hv⟩ := this.1 h
    rw [mkS_data, hv]; rfl
  · rename_i h
    cases hg : getS x.attrs j with
    | none => rfl
    | some v => exact absurd (this.2 ⟨v, hg⟩) h
theorem attrsOf_ok {x : PN} (h : AttrOk x.attrs) (hp : ∀ k w, getS x.attrs k = some w → pairB k w = true ∧ w ≠ empty) : attrsA ⟨#[]⟩ (attrsOf x) = true := by
  have hk : ∀ k ∈ attrKeys x, ∃ w, getS x.attrs (mkS k) = some w ∧ pairB (mkS k) w = true ∧ w ≠ empty := fun k hk => by
    obtain ⟨v, hv⟩ := mem_attrKeys.1 hk
    exact ⟨v, hv, hp _ _ hv⟩
  refine attrsA_of (f := fun k => ⟨mkS k, (getS x.attrs (mkS k)).getD ⟨#[]⟩⟩) (attrKeys x) ⟨#[]⟩ (fun k _ => by simp [mkS]) (attrKeys_sorted h) (fun k hk' => ?_) fun k hk' => ?_
  · obtain ⟨w, _, h2, _⟩ := hk k hk'
    cases k with
    | nil => simp [pairB, mkS] at h2
    | cons a l => simp
  · obtain ⟨w, h1, h2, h3⟩ := hk k hk'
    simp only [h1, Option.getD_some]
    exact ⟨h3, h2⟩

theorem rowsA_some : ∀ {l : List TN} {T : PT} {last : Int}, l.Pairwise (fun a b => a.node < b.node) → (∀ r ∈ l, last < r.node) →
    (∀ r ∈ l, attrsA ⟨#[]⟩ r.attrs = true ∧ topB r.node = (decide (r.parent = 0) && decide (r.name = ⟨#[]⟩)) ∧ (topB r.node = true ∨ nameB r.name = true)) → ∃ T', rowsA T last l = some T'
  | [], T, last, _, _, _ => ⟨T, rfl⟩
  | r :: l, T, last, h1, h2, h3 => by
    rw [List.pairwise_cons] at h1
    obtain ⟨e1, e2, e3⟩ := h3 r (by simp)
    have e0 := h2 r (by simp)
    obtain ⟨T', hT'⟩ := rowsA_some (l := l) (T := (T.row r).putAll r.node r.attrs) (last := r.node) h1.2 h1.1 fun q hq => h3 q (by simp [hq])
    refine ⟨T', ?_⟩
    rw [rowsA, if_pos, hT']
    rw [e1, Bool.and_true, rowA, decide_eq_false (by omega), e2, beq_self_eq_true, ← e2]
    rcases e3 with e | e <;> simp [e]
theorem rowGet_of : ∀ {l : List TN} {r : TN}, l.Pairwise (fun a b => a.node < b.node) → r ∈ l → rowGet l r.node = some (rowN r)
  | [], r, _, h => by simp at h
  | q :: l, r, h1, h => by
    rw [List.pairwise_cons] at h1
    rcases List.mem_cons.1 h with rfl | h
    · rw [rowGet, if_pos rfl]
    · have := h1.1 r h
      rw [rowGet, if_neg (by omega)]
      exact rowGet_of h1.2 h

theorem nodesK_sorted {T : PT} (h : (T.nodes.map (·.1)).Nodup) : (nodesK T).Pairwise (· < ·) := by
  have tr : ∀ a b c : Int, decide (a ≤ b) = true → decide (b ≤ c) = true → decide (a ≤ c) = true := fun a b c h1 h2 => by simp only [decide_eq_true_eq] at *; omega
  have to : ∀ a b : Int, (decide (a ≤ b) || decide (b ≤ a)) = true := fun a b => by simp only [Bool.or_eq_true, decide_eq_true_eq]; omega
  have h1 : (nodesK T).Pairwise fun a b => decide (a ≤ b) = true := List.pairwise_mergeSort tr to (T.nodes.map fun p : Int × PN => p.1)
  have h2 : (nodesK T).Nodup := (List.mergeSort_perm _ _).nodup_iff.2 h
  refine (h1.and h2).imp fun {a b} hab => ?_
  have := of_decide_eq_true hab.1
  have := hab.2
  omega
theorem toldL_node {T : PT} {l : List Int} {t : TN} (h : t ∈ toldL T l) : ∃ n ∈ l, ∃ x, T.get n = some x ∧ t = toldOf n x := by
  obtain ⟨n, hn, h2⟩ := List.mem_filterMap.1 (List.mem_filter.1 h).1
  cases hx : T.get n with
  | none => rw [hx] at h2; cases h2
  | some x => rw [hx] at h2; exact ⟨n, hn, x, hx, by simpa using h2.symm⟩
theorem toldL_sorted {T : PT} : ∀ {l : List Int}, l.Pairwise (· < ·) → (toldL T l).Pairwise (fun a b => a.node < b.node)
  | [], _ => List.Pairwise.nil
  | n :: l, h => by
    rw [List.pairwise_cons] at h
    have ih := toldL_sorted (T := T) h.2
    unfold toldL at ih ⊢
    rw [List.filterMap_cons]
    cases hx : T.get n with
    | none => exact ih
    | some x =>
      simp only [Option.map_some]
      rw [List.filter_cons]
      split
      · rw [List.pairwise_cons]
        refine ⟨fun t ht => ?_, ih⟩
        obtain ⟨m, hm, y, _, rfl⟩ := toldL_node (T := T) (l := l) ht
        exact h.1 m hm
      · exact ih
theorem mem_told {T : PT} {n : Int} {x : PN} (hx : T.get n = some x) : toldOf n x ∈ nodesTold T ↔ (toldOf n x).shown = true := by
  unfold nodesTold toldL
  rw [List.mem_filter]
  refine ⟨fun h => h.2, fun h => ⟨List.mem_filterMap.2 ⟨n, ?_, by rw [hx]; rfl⟩, h⟩⟩
  exact (List.mergeSort_perm _ _).mem_iff.2 (List.mem_map.2 ⟨(n, x), getA_mem hx, rfl⟩)
/-- What a tree tells is a tree, and looks like it. -/
theorem told_from {T : PT} {k : Nat} (hok : T.ok k) (hg : VGood T.view) : fromA (nodesTold T) ∧ viewOf (nodesTold T) = T.view := by
  have hs := toldL_sorted (T := T) (nodesK_sorted hok.nod)
  have hat : ∀ n x, T.get n = some x → attrsA ⟨#[]⟩ (attrsOf x) = true := fun n x hx => attrsOf_ok (hok.attrs n x hx).1 fun k w h => hg.pairs n _ k w (PT.view_get hx) h
  have heach : ∀ t ∈ nodesTold T, ∃ n x, T.get n = some x ∧ t = toldOf n x := fun t ht => by
    obtain ⟨n, _, x, hx, e⟩ := toldL_node ht
    exact ⟨n, x, hx, e⟩
  obtain ⟨T', hT'⟩ := rowsA_some (l := nodesTold T) (T := T0) (last := 0) hs (fun r hr => by
    obtain ⟨n, x, hx, rfl⟩ := heach r hr
    exact hg.pos n _ (PT.view_get hx)) fun r hr => by
    obtain ⟨n, x, hx, rfl⟩ := heach r hr
    refine ⟨hat n x hx, ?_, ?_⟩
    · show topB n = _
      cases ht : topB n with
      | true =>
        obtain ⟨e1, e2⟩ := hg.top n _ (PT.view_get hx) ht
        have e1 : x.parent = 0 := e1
        have e2 : x.name = ⟨#[]⟩ := e2
        simp [toldOf, e1, e2]
      | false =>
        have := hg.name n _ (PT.view_get hx) ht
        have hne : x.name ≠ ⟨#[]⟩ := fun e => by
          have this : nameB x.name = true := this
          rw [e] at this
          exact absurd this (by decide)
        simp [toldOf, hne]
    · show topB n = true ∨ _
      cases ht : topB n with
      | true => exact .inl rfl
      | false => exact .inr (hg.name n _ (PT.view_get hx) ht)
  have hR := rowsA_rowed hT'
  have hv : viewOf (nodesTold T) = T.view := by
    funext n
    unfold viewOf
    cases hx : T.get n with
    | none =>
      rw [PT.view_none.2 hx, rowGet_none fun r hr e => ?_]
      · cases h0 : T0.get n with
        | none => rfl
        | some y =>
          have := (T0_keys (PT.view_get h0)).1
          have hv := PT.view_none.2 hx
          rcases topB_iff.1 this with e | e
          · rw [e] at hv; exact absurd hv hg.one
          · rw [e] at hv; exact absurd hv hg.two
      · obtain ⟨m, x, hx', rfl⟩ := heach r hr
        have e : m = n := e
        rw [e, hx] at hx'; cases hx'
    | some x =>
      rw [PT.view_get hx]
      by_cases hsh : (toldOf n x).shown = true
      · have := rowGet_of hs ((mem_told hx).2 hsh)
        rw [show (toldOf n x).node = n from rfl] at this
        have h2 : rowGet (nodesTold T) n = some (rowN (toldOf n x)) := this
        rw [h2]
        simp only [Option.map_some, PN.view, rowN, toldOf, Option.some.injEq, AN.mk.injEq, true_and]
        funext j
        rw [laidA_get (hat n x hx), attrsOf_look]
      · simp only [TN.shown, Bool.or_eq_true, Bool.not_eq_true', decide_eq_true_eq, not_or] at hsh
        have ht : topB n = true := by
          have := hsh.1
          simpa [toldOf] using this
        have hl : (attrsOf x).length = 0 := by
          have := hsh.2
          simp only [toldOf] at this
          omega
        have hno : ∀ r ∈ nodesTold T, r.node ≠ n := fun r hr e => by
          obtain ⟨m, y, hy, rfl⟩ := heach r hr
          have e' : m = n := e
          rw [e'] at hr hy
          rw [hx] at hy; cases hy
          have := (mem_told hx).1 hr
          rw [TN.shown, Bool.or_eq_true, Bool.not_eq_true'] at this
          rcases this with q | q
          · rw [show (toldOf n x).node = n from rfl, ht] at q; cases q
          · have q' : 0 < (attrsOf x).length := of_decide_eq_true q
            omega
        rw [rowGet_none hno]
        have h0 : T0.get n = some PN.bare := by
          rcases topB_iff.1 ht with e | e <;> rw [e] <;> rfl
        rw [h0]
        obtain ⟨e1, e2⟩ := hg.top n _ (PT.view_get hx) ht
        have e1 : x.parent = 0 := e1
        have e2 : x.name = ⟨#[]⟩ := e2
        simp only [Option.map_some, PN.view, PN.bare, Option.some.injEq, AN.mk.injEq, e1, e2, true_and]
        funext j
        rw [← attrsOf_look x j, List.length_eq_zero_iff.1 hl]; rfl
  refine ⟨⟨T', hT', ?_⟩, hv⟩
  unfold PT.led
  rw [hR.view, hv]
  exact hg.led
end Go.Proofs.YtmjiojflncffeaaGreat.Vc

/- A log in memory; what is asked of it without changing it. -/
set_option linter.unusedVariables false
set_option linter.unusedSimpArgs false
set_option maxRecDepth 100000
namespace Go.Proofs.YtmjiojflncffeaaGreat.Vc
open Go Go.Proofs

theorem uni_rot {a b c : PH} (h : dis a b) : uni a (uni b c) = uni b (uni a c) := by rw [← uni_assoc, uni_comm h, uni_assoc]
/-- The log's own five cells. -/
def logC (L Lb : Lay) (fr : Int) (ov : Value) (red : Int) (e : TypeId) : Obj := .cells #[ptr (L .t), ptr (Lb .t), .int .i64 fr, ov, .int .i64 red] e (0, 0)
structure LogP (b : Nat) (L Lb : Lay) (p : PL) (ov : Value) (e : TypeId) (mo mT mB : PH) : Prop where
  d1 : dis (one b (logC L Lb p.fr ov p.red e)) (uni mo (uni mT mB))
  d2 : dis mo (uni mT mB)
  d3 : dis mT mB
  ops : SlO mo ov 97 22 (p.ds.map gDone)
  tree : TM mT L p.T
  base : TM mB Lb p.B
/-- A log, in memory of its own. -/
def LogM (m : PH) (b : Nat) (L Lb : Lay) (p : PL) : Prop := ∃ ov e mo mT mB, m = uni (one b (logC L Lb p.fr ov p.red e)) (uni mo (uni mT mB)) ∧ LogP b L Lb p ov e mo mT mB

theorem SlO.one {u : PH} {v : Value} {e : TypeId} {z : Nat} {xs : List GV} (h : SlO u v e z xs) : v.oneCell' = true := by
  rcases h.2 with ⟨h, _⟩ | ⟨a, c, h, _⟩ <;> rw [h] <;> rfl
section
variable {m : PH} {b : Nat} {L Lb : Lay} {p : PL}
/-- What is read of it. -/
theorem LogM.look (h : LogM m b L Lb p) : ∃ ov mT mB, SlR m ov 22 (p.ds.map gDone) ∧ (PH.sub mT m ∧ TM mT L p.T) ∧ (PH.sub mB m ∧ TM mB Lb p.B) ∧ ∀ {C : Ctx} {ph : List PH} {m' : PH}, KN C.u0 (m' :: ph) m →
    Seen C ph m' b 0 (.s (ptr (L .t))) ∧ Seen C ph m' b 1 (.s (ptr (Lb .t))) ∧ Seen C ph m' b 2 (.s (.int .i64 p.fr)) ∧ Seen C ph m' b 3 (.s ov) ∧ Seen C ph m' b 4 (.s (.int .i64 p.red)) := by
  obtain ⟨ov, e, mo, mT, mB, rfl, q⟩ := h
  have s1 : PH.sub (uni mo (uni mT mB)) (uni (one b (logC L Lb p.fr ov p.red e)) (uni mo (uni mT mB))) := sub_uni_r q.d1
  have s2 := PH.sub_trans (sub_uni_r q.d2) s1
  refine ⟨ov, mT, mB, q.ops.toR.up (PH.sub_trans (sub_uni_l _ _) s1), ⟨PH.sub_trans (sub_uni_l _ _) s2, q.tree⟩, ⟨PH.sub_trans (sub_uni_r q.d3) s2, q.base⟩, fun hk => ?_⟩
  have hb : uni (one b (logC L Lb p.fr ov p.red e)) (uni mo (uni mT mB)) b = some (logC L Lb p.fr ov p.red e) := sub_uni_l _ _ _ _ (one_self _ _)
  exact ⟨seen_cell hk hb rfl rfl, seen_cell hk hb rfl rfl, seen_cell hk hb rfl rfl, seen_cell hk hb rfl q.ops.one, seen_cell hk hb rfl rfl⟩
/-- Its tree, apart. -/
theorem LogM.tree (h : LogM m b L Lb p) : ∃ mT mr, m = uni mT mr ∧ dis mT mr ∧ TM mT L p.T ∧ ∀ {L' : Lay} {T' : PT} {mT' : PH}, L' .t = L .t → TM mT' L' T' → dis mT' mr → LogM (uni mT' mr) b L' Lb { p with T := T' } := by
  obtain ⟨ov, e, mo, mT, mB, rfl, q⟩ := h
  obtain ⟨d1, d2⟩ := dis_of_uni_r q.d1
  obtain ⟨d3, d4⟩ := dis_of_uni_r d2
  obtain ⟨d5, d6⟩ := dis_of_uni_r q.d2
  refine ⟨mT, uni (one b (logC L Lb p.fr ov p.red e)) (uni mo mB), ?_, dis_uni_r (dis_comm d3) (dis_uni_r (dis_comm d5) q.d3), q.tree, fun {L' T' mT'} hL hT hd => ?_⟩
  · rw [uni_rot d5, uni_rot d3]
  · obtain ⟨g1, g2⟩ := dis_of_uni_r hd
    obtain ⟨g3, g4⟩ := dis_of_uni_r g2
    have hlog : logC L' Lb p.fr ov p.red e = logC L Lb p.fr ov p.red e := by unfold logC; rw [hL]
    refine ⟨ov, e, mo, mT', mB, ?_, ⟨?_, dis_uni_r (dis_comm g3) d6, g4, q.ops, hT, q.base⟩⟩
    · show _ = uni (one b (logC L' Lb p.fr ov p.red e)) _
      rw [hlog, uni_rot (b := mT') (dis_comm g3), uni_rot (dis_comm g1)]
    · show dis (one b (logC L' Lb p.fr ov p.red e)) _
      rw [hlog]
      exact dis_uni_r d1 (dis_uni_r (dis_comm g1) d4)
/-- Its base, apart. -/
theorem LogM.base (h : LogM m b L Lb p) : ∃ mB mr, m = uni mB mr ∧ dis mB mr ∧ TM mB Lb p.B ∧ ∀ {L' : Lay} {T' : PT} {mB' : PH}, L' .t = Lb .t → TM mB' L' T' → dis mB' mr → LogM (uni mB' mr) b L L' { p with B := T' } := by
  obtain ⟨ov, e, mo, mT, mB, rfl, q⟩ := h
  obtain ⟨d1, d2⟩ := dis_of_uni_r q.d1
  obtain ⟨d3, d4⟩ := dis_of_uni_r d2
  obtain ⟨d5, d6⟩ := dis_of_uni_r q.d2
  refine ⟨mB, uni (one b (logC L Lb p.fr ov p.red e)) (uni mo mT), ?_, dis_uni_r (dis_comm d4) (dis_uni_r (dis_comm d6) (dis_comm q.d3)), q.base, fun {L' T' mT'} hL hT hd => ?_⟩
  · rw [uni_comm q.d3, uni_rot d6, uni_rot d4]
  · obtain ⟨g1, g2⟩ := dis_of_uni_r hd
    obtain ⟨g3, g4⟩ := dis_of_uni_r g2
    have hlog : logC L L' p.fr ov p.red e = logC L Lb p.fr ov p.red e := by unfold logC; rw [hL]
    refine ⟨ov, e, mo, mT, mT', ?_, ⟨?_, dis_uni_r d5 (dis_comm g3), dis_comm g4, q.ops, q.tree, hT⟩⟩
    · show _ = uni (one b (logC L L' p.fr ov p.red e)) _
      rw [hlog, uni_comm (a := mT) (b := mT') (dis_comm g4), uni_rot (b := mT') (dis_comm g3), uni_rot (dis_comm g1)]
    · show dis (one b (logC L L' p.fr ov p.red e)) _
      rw [hlog]
      exact dis_uni_r d1 (dis_uni_r d3 (dis_comm g1))
/-- Its list, apart; another list is stored. -/
theorem LogM.list (h : LogM m b L Lb p) : ∃ ov e mo mr, m = uni mo mr ∧ dis mo mr ∧ SlO mo ov 97 22 (p.ds.map gDone) ∧ mr b = some (logC L Lb p.fr ov p.red e) ∧ (∀ {C : Ctx} {ph : List PH} {m' : PH}, KN C.u0 (m' :: ph) m → Seen C ph m' b 3 (.s ov)) ∧
    ∀ {v' : Value} {mo' : PH} {ds' : List Done} {fr' red' : Int}, SlO mo' v' 97 22 (ds'.map gDone) → dis mo' mr → LogM (uni mo' (mr.upd b (logC L Lb fr' v' red' e))) b L Lb { p with ds := ds', fr := fr', red := red' } := by
  obtain ⟨ov, e, mo, mT, mB, rfl, q⟩ := h
  obtain ⟨d1, d2⟩ := dis_of_uni_r q.d1
  have hb : uni (one b (logC L Lb p.fr ov p.red e)) (uni mo (uni mT mB)) b = some (logC L Lb p.fr ov p.red e) := sub_uni_l _ _ _ _ (one_self _ _)
  refine ⟨ov, e, mo, uni (one b (logC L Lb p.fr ov p.red e)) (uni mT mB), uni_rot d1, dis_uni_r (dis_comm d1) q.d2, q.ops, sub_uni_l _ _ _ _ (one_self _ _), fun hk => seen_cell hk hb rfl q.ops.one, fun {v' mo' ds' fr' red'} hv hd => ?_⟩
  obtain ⟨g1, g2⟩ := dis_of_uni_r hd
  have hone : ∀ {x : PH} {o o' : Obj}, dis (one b o) x → dis (one b o') x := fun {x o o'} h j => by
    rcases h j with h1 | h1
    · left
      simp only [Vc.one] at h1 ⊢
      split at h1
      · cases h1
      · rename_i hj; rw [if_neg hj]
    · exact .inr h1
  refine ⟨v', e, mo', mT, mB, ?_, ⟨hone (dis_uni_r (dis_comm g1) d2), g2, q.d3, hv, q.tree, q.base⟩⟩
  rw [uni_one_upd, uni_rot (b := one b (logC L Lb fr' v' red' e)) (dis_comm (hone (dis_comm g1)))]
end
theorem SlR.cutAt {u : PH} {b o n c : Nat} {z : Nat} {xs : List GV} (h : SlR u (.slice (some ⟨b, o, none⟩) n c) z xs) {lo hi : Nat} (h1 : lo ≤ hi) (h2 : hi ≤ n) : SlR u (.slice (some ⟨b, if c = lo then o else o + lo * z, none⟩) (hi - lo) (c - lo)) z ((xs.drop lo).take (hi - lo)) := by
  obtain ⟨hels, ⟨h3, rfl⟩ | ⟨a, c', h3, h4, h5⟩⟩ := h
  · simp at h3
  · simp only [Value.slice.injEq, Option.some.injEq] at h3
    obtain ⟨rfl, rfl, rfl⟩ := h3
    refine ⟨hels.part _ _, .inr ⟨⟨b, if c = lo then o else o + lo * z, none⟩, c - lo, by rw [List.length_take, List.length_drop]; congr 1; omega, by rw [List.length_take, List.length_drop]; omega, fun hc => ?_⟩⟩
    obtain ⟨cs, e, fz, g1, g2, g3⟩ := h5 (by omega)
    simp only at g2 g3 ⊢
    rw [if_neg (by omega)]
    refine ⟨cs, e, fz, trivial, g2, fun j v hj => ?_⟩
    rw [Nat.add_assoc]
    exact g3 _ _ (flats_part hels (by omega) j v hj)

/-- A part of a slice that lies anywhere. -/
theorem ops_sl {C : Ctx} {σ : SS} {t z : Nat} {x : Opd} {lo hi : Option Opd} {r : List (Option Nat × RO)} {K : KT} {v : Value} {u : PH} {xs : List GV} {l h : Nat} (hx : ev σ x = some (.g (.s v))) (hs : SlR u v z xs) (hlo : bndN σ lo 0 = some l) (hhi : ∀ d : Nat, d = xs.length → bndN σ hi d = some h)
    (h1 : l ≤ h) (h2 : h ≤ xs.length) (hK : ∀ v', v'.oneCell' = true → SlR u v' z ((xs.drop l).take (h - l)) → vcSegOps C r K (σ.put (some t) (.g (.s v')))) : vcSegOps C ((some t, .sl z x lo hi) :: r) K σ := by
  rw [ops_cons]
  simp only [vcOp, hx]
  have hw := hs
  obtain ⟨hels, ⟨rfl, rfl⟩ | ⟨⟨b, o, sp⟩, c, rfl, hc, hs⟩⟩ := hs
  · obtain rfl : h = 0 := by simpa using h2
    obtain rfl : l = 0 := by omega
    simp only [hlo, hhi 0 rfl]
    exact ⟨⟨rfl, rfl⟩, hK _ rfl (by simpa using hw)⟩
  · cases sp with
    | none =>
      simp only [hlo, hhi _ rfl]
      refine ⟨⟨hc, by omega, by omega, by omega⟩, ?_⟩
      simp only [Int.toNat_natCast]
      exact hK _ rfl (SlR.cutAt hw h1 h2)
    | some sp =>
      have hc0 : c = 0 := by
        rcases Nat.eq_zero_or_pos c with h | h
        · exact h
        · obtain ⟨_, _, _, g, _⟩ := hs h
          cases g
      subst hc0
      have hx0 : xs = [] := List.length_eq_zero_iff.1 (by omega)
      subst hx0
      obtain rfl : h = 0 := by simpa using h2
      obtain rfl : l = 0 := by omega
      simp only [hlo, hhi 0 rfl, List.length_nil]
      exact ⟨⟨rfl, rfl⟩, hK _ rfl (by simpa using hw)⟩
end Go.Proofs.YtmjiojflncffeaaGreat.Vc

/- A log: made; what is asked of it. -/
set_option linter.unusedVariables false
set_option linter.unusedSimpArgs false
set_option maxRecDepth 100000
namespace Go.Proofs.YtmjiojflncffeaaGreat.Vc
open Go Go.Proofs

theorem eqLog (b : Nat) : EqG Tryz.prog 27 (.s (ptr b)) (.s (.pointer none)) false := eqG_ptr (e := 81) (by kernel_rfl) _
section
variable {w : World} {u : PH} {b : Nat} {L Lb : Lay} {p : PL}
theorem logNone_spec (hu : u.le w) (h : LogM u b L Lb p) : Spec Tryz.prog f_oplog_Log_none [ptr b] PH.no w fun rs _ => rs = [.s (.bool false)] := by
  refine spec_val k_oplog_Log_none (Qf := fun rs => rs = [.s (.bool false)]) [.g (.s (ptr b))] (by simp) (by simp [AV.ok, GV.ok, Value.oneCell', ptr]) ?_
  obtain ⟨ov, mT, mB, hS, hT, hB, hs⟩ := h.look
  simp (maxSteps := 2000000) only [c_oplog_Log_none, ptr, vc_seq, vc_rg, thenQ_n, kKeep_eq, segs_nil, segs_n, ops_nil, ops_cons, vcOp, ev, look, put_mk, keep_mk, keepL, Value.oneCell', cond_true, ↓reduceIte, reduceCtorEq, initF, initP, ptr]
  refine eq_of (eqLog b) ?_
  simp (maxSteps := 2000000) only [segs_g, ops_nil, ops_cons, vcOp, ev, look, put_mk, ↓reduceIte, reduceCtorEq, Nat.zero_add, ↓br_ff, Bool.bne_false]
  refine ld_of _ (hs (kn_u hu)).2.1 rfl ?_
  simp (maxSteps := 2000000) only [ptr, ops_cons, vcOp, ev, look, put_mk, Value.oneCell', cond_true, ↓reduceIte, ptr]
  refine eq_of (eqTree _) ?_
  simp (maxSteps := 2000000) only [vc_ret, thenQ_n, kKeep_eq, segs_nil, segs_n, ops_nil, ops_cons, vcOp, ev, look, put_mk, keep_mk, keepL, Value.oneCell', cond_true, Nat.reduceEqDiff, ↓reduceIte, finW_r, resL, resOne, ↓br_ft, Bool.bne_false]
theorem cloneO_spec (w : World) (v : Value) (ops : List Op) (hb : ops.length ≤ 1099511627776) (u : PH) (hu : u.le w) (h : SlR u v 8 (ops.map gOp)) :
    Spec Tryz.prog 37 [v] PH.no w fun rs m' => ∃ v', rs = [.s v'] ∧ SlO m' v' 26 8 (ops.map gOp) := by
  refine spec_of k_slices_CloneO [.ro v 8 (gOp zOp) (ops.map gOp)] (by simp) (by simpa [AV.ok, u0_no] using h.up hu.sub) ?_
  simp (maxSteps := 2000000) only [c_slices_CloneO, vc_skip, vc_ret, vc_seq, vc_rg, vc_ite, thenQ_n, thenQ_r, kKeep_eq, finQ_r, segs_nil, segs_n, ops_nil, ops_cons, vcOp, ev, evL, gvL, look, updL, put_mk, keep_mk, keepL, rowE, Value.oneCell', cond_true, cond_false, Nat.reduceEqDiff, Nat.reduceBEq, ↓reduceIte, reduceCtorEq, List.nil_append, Nat.zero_add, Bool.and_true, Bool.true_and, BEq.rfl, true_and, and_true, initF, initP, szAll, List.length_nil, kill, SV.mentions, ne_eq, not_false_eq_true, List.drop_zero, br_t, Bool.bne_false, List.length_map, gStamp_zero, gOp_zero]
  refine ⟨⟨26, by kernel_rfl⟩, fun r hr => ⟨fun h1 => ?_, fun h1 => ⟨by omega, ?_⟩⟩⟩
  · have : ops = [] := by
      cases ops with
      | nil => rfl
      | cons b bs => have := hr (by simp); rw [h1] at this; cases this
    subst this
    exact fin_m PH.no rfl (fun _ _ h => by cases h) ⟨_, rfl, ⟨fun x hx => by simp at hx, .inl ⟨rfl, rfl⟩⟩⟩
  · rw [show List.take ops.length (ops.map gOp) = ops.map gOp by rw [List.take_of_length_le (by simp)]]
    refine gh_pub 2 5 _ rfl rfl (by simp) fun v' u' ho hs hd => ?_
    simp (maxSteps := 2000000) only [vc_ret, thenQ_n, kKeep_eq, finQ_r, segs_nil, ops_nil, look, keep_mk, keepL, cond_true, cond_false, Nat.reduceBEq, ↓reduceIte, BEq.rfl, kill, SV.mentions]
    exact fin_m u' rfl (by rw [uni_no_r]; exact fun _ _ h => h) ⟨v', rfl, hs⟩
theorem cloneD_spec (w : World) (v : Value) (ds : List Done) (hb : ds.length ≤ 549755813888) (u : PH) (hu : u.le w) (h : SlR u v 22 (ds.map gDone)) :
    Spec Tryz.prog 43 [v] PH.no w fun rs m' => ∃ v', rs = [.s v'] ∧ SlO m' v' 97 22 (ds.map gDone) := by
  refine spec_of k_slices_CloneD [.ro v 22 (gDone zDone) (ds.map gDone)] (by simp) (by simpa [AV.ok, u0_no] using h.up hu.sub) ?_
  simp (maxSteps := 2000000) only [c_slices_CloneD, vc_skip, vc_ret, vc_seq, vc_rg, vc_ite, thenQ_n, thenQ_r, kKeep_eq, finQ_r, segs_nil, segs_n, ops_nil, ops_cons, vcOp, ev, evL, gvL, look, updL, put_mk, keep_mk, keepL, rowE, Value.oneCell', cond_true, cond_false, Nat.reduceEqDiff, Nat.reduceBEq, ↓reduceIte, reduceCtorEq, List.nil_append, Nat.zero_add, Bool.and_true, Bool.true_and, BEq.rfl, true_and, and_true, initF, initP, szAll, List.length_nil, kill, SV.mentions, ne_eq, not_false_eq_true, List.drop_zero, br_t, Bool.bne_false, List.length_map, gStamp_zero, gOp_zero, gPlace_zero, gUndo_zero, gDone_zero]
  refine ⟨⟨97, by kernel_rfl⟩, fun r hr => ⟨fun h1 => ?_, fun h1 => ⟨by omega, ?_⟩⟩⟩
  · have : ds = [] := by
      cases ds with
      | nil => rfl
      | cons b bs => have := hr (by simp); rw [h1] at this; cases this
    subst this
    exact fin_m PH.no rfl (fun _ _ h => by cases h) ⟨_, rfl, ⟨fun x hx => by simp at hx, .inl ⟨rfl, rfl⟩⟩⟩
  · rw [show List.take ds.length (ds.map gDone) = ds.map gDone by rw [List.take_of_length_le (by simp)]]
    refine gh_pub 2 5 _ rfl rfl (by simp) fun v' u' ho hs hd => ?_
    simp (maxSteps := 2000000) only [vc_ret, thenQ_n, kKeep_eq, finQ_r, segs_nil, ops_nil, look, keep_mk, keepL, cond_true, cond_false, Nat.reduceBEq, ↓reduceIte, BEq.rfl, kill, SV.mentions]
    exact fin_m u' rfl (by rw [uni_no_r]; exact fun _ _ h => h) ⟨v', rfl, hs⟩
theorem logNew_spec (w : World) : Spec Tryz.prog f_oplog_New [] PH.no w fun rs m' => ∃ b L Lb, rs = [.s (ptr b)] ∧ LogM m' b L Lb PL.new := by
  refine spec_of k_oplog_New [] (by simp) (by simp [AV.ok]) ?_
  simp (maxSteps := 2000000) only [c_oplog_New, vc_seq, vc_rg, thenQ_n, kKeep_eq, segs_nil, segs_n, ops_nil, ops_cons, vcOp, ev, put_mk, keep_mk, keepL, Value.oneCell', cond_true, initF, initP, ptr]
  refine call_ownm rfl rfl (Q := fun rs m' => ∃ L, rs = [.s (ptr (L .t))] ∧ TM m' L T0) (fun w' vs hv hw _ _ => ?_) fun rs mT _ hq _ => ?_
  · obtain rfl := argsV_nil hv
    exact New_spec w'
  obtain ⟨L, rfl, hT⟩ := hq
  simp (maxSteps := 2000000) only [retS, uni_no_r, ops_cons, vcOp, ev, evL, gvL, look, put_mk, GV.getT, GV.same, GV.setT, ↓reduceIte, Bool.and_true, and_true, List.map_cons, List.map_nil, Option.map_some, GV.bldT, GV.bldC, ptr]
  refine ⟨rfl, ?_⟩
  refine call_ownm rfl rfl (Q := fun rs m' => ∃ L, rs = [.s (ptr (L .t))] ∧ TM m' L T0) (fun w' vs hv hw _ _ => ?_) fun rs mB _ hq hd => ?_
  · obtain rfl := argsV_nil hv
    exact New_spec w'
  obtain ⟨Lb, rfl, hB⟩ := hq
  simp (maxSteps := 2000000) only [retS, GV.bldC, GV.bldT, ops_cons, vcOp, ev, evL, gvL, look, updL, put_mk, GV.getT, GV.same, GV.setT, Nat.reduceEqDiff, ↓reduceIte, Bool.and_true, Bool.true_and, true_and, and_true, List.map_cons, List.map_nil, Option.map_some, GV.bldT, GV.bldC, ptr]
  refine ⟨⟨rfl, rfl⟩, gh_pubBox 5 5 rfl rfl fun v u hv hp hd2 => ?_⟩
  obtain ⟨hok, b, e, rfl, rfl⟩ := hp
  have hd : dis mB mT := hd
  have hd2 : dis (one b (logC L Lb 0 (.slice none 0 0) 0 e)) (uni mB mT) := hd2
  simp (maxSteps := 2000000) only [vc_ret, thenQ_n, kKeep_eq, finQ_r, segs_nil, ops_nil, ops_cons, vcOp, ev, look, put_mk, keep_mk, keepL, cond_true, cond_false, ↓reduceIte, BEq.rfl, kill, SV.mentions]
  refine fin_m _ rfl (fun _ _ h => h) ⟨b, L, Lb, rfl, ?_⟩
  have em : uni mB mT = uni PH.no (uni mT mB) := by rw [uni_no, uni_comm hd]
  show LogM (uni (one b (logC L Lb 0 (.slice none 0 0) 0 e)) (uni mB mT)) b L Lb PL.new
  rw [em] at hd2 ⊢
  exact ⟨.slice none 0 0, e, PH.no, mT, mB, rfl, ⟨hd2, dis_no _, dis_comm hd, ⟨fun x hx => by simp [PL.new] at hx, .inl ⟨rfl, rfl⟩⟩, hT, hB⟩⟩
theorem logLen_spec (hu : u.le w) (h : LogM u b L Lb p) : Spec Tryz.prog f_oplog_Log_Len [ptr b] PH.no w fun rs _ => rs = [.s (.int .i64 p.ds.length)] := by
  refine spec_val k_oplog_Log_Len (Qf := fun rs => rs = [.s (.int .i64 p.ds.length)]) [.g (.s (ptr b))] (by simp) (by simp [AV.ok, GV.ok, Value.oneCell', ptr]) ?_
  obtain ⟨ov, mT, mB, hS, hT, hB, hs⟩ := h.look
  simp (maxSteps := 2000000) only [c_oplog_Log_Len, ptr, vc_seq, vc_rg, thenQ_n, kKeep_eq, segs_nil, segs_n, ops_nil, ops_cons, vcOp, ev, look, put_mk, keep_mk, keepL, Value.oneCell', cond_true, ↓reduceIte, reduceCtorEq, initF, initP, ptr]
  refine call_ism _ [.s (.bool false)] rfl rfl (fun w' vs hv hw _ _ => ?_) ?_
  · obtain ⟨vs, rfl, _, hv⟩ := argsV_g hv
    obtain rfl := argsV_nil hv
    exact logNone_spec (fun b o h => hw b o (by rw [u0_no]; exact hu b o h)) h
  simp (maxSteps := 2000000) only [retS, vc_skip, vc_seq, vc_rg, vc_ite, thenQ_n, kKeep_eq, segs_nil, segs_n, ops_nil, ops_cons, vcOp, ev, look, put_mk, keep_mk, keepL, ↓reduceIte, reduceCtorEq, Nat.zero_add, ↓br_ft]
  refine ld_of _ (hs (kn_u hu)).2.2.2.1 rfl ?_
  obtain ⟨a, c, rfl⟩ := slr_len hS
  simp (maxSteps := 2000000) only [List.length_map, vc_ret, thenQ_n, kKeep_eq, segs_nil, ops_nil, ops_cons, vcOp, ev, look, put_mk, keep_mk, keepL, ↓reduceIte, finW_r, resL, resOne, List.length_map]
end
end Go.Proofs.YtmjiojflncffeaaGreat.Vc

/- What is wrong with operations that come to a log. -/
set_option linter.unusedVariables false
set_option linter.unusedSimpArgs false
set_option maxRecDepth 100000
namespace Go.Proofs.YtmjiojflncffeaaGreat.Vc
open Go Go.Proofs

/-- Stamps, each counted once. -/
def cnt (ks : List (Int × Int)) : List ((Int × Int) × Value) := ks.map fun k => (k, .int .i64 1)
theorem mget_cnt : ∀ (ks : List (Int × Int)) (k : Int × Int), mget2 (cnt ks) k = if k ∈ ks then some (.int .i64 1) else none
  | [], _ => rfl
  | j :: ks, k => by
    have ih := mget_cnt ks k
    show (if j = k then some (.int .i64 1) else mget2 (cnt ks) k) = _
    rw [ih]
    by_cases h : j = k
    · subst h; simp
    · simp [h, Ne.symm h]
theorem mput_cnt (v : Value) : ∀ (ks : List (Int × Int)) (k : Int × Int), k ∉ ks → mput2 (cnt ks) k v = cnt ks ++ [(k, v)]
  | [], _, _ => rfl
  | j :: ks, k, h => by
    have h1 : j ≠ k := fun e => h (by simp [e])
    show (if j = k then (k, v) :: cnt ks else (j, .int .i64 1) :: mput2 (cnt ks) k v) = _
    rw [if_neg h1, mput_cnt v ks k fun hm => h (List.mem_cons_of_mem _ hm)]
    rfl
theorem mget_put2 (v : Value) : ∀ (l : List ((Int × Int) × Value)) (k : Int × Int), mget2 (mput2 l k v) k = some v
  | [], k => by simp [mput2, mget2]
  | (j, u) :: l, k => by
    by_cases h : j = k
    · simp [mput2, mget2, h]
    · simp only [mput2, if_neg h, mget2]
      exact mget_put2 v l k
theorem mapI_2 {o : Obj} {kd : Option IntKind} (h : MapI kd o []) : Map2 o [] := by
  obtain ⟨es, cl, rfl, h1, h2, _⟩ := h
  exact ⟨es, cl, rfl, by simpa using h1, h2, by simp⟩
/-- The next count of a stamp. -/
def cntV (ks : List (Int × Int)) (k : Int × Int) : Int := if k ∈ ks then 2 else 1
theorem cnt_get (ks : List (Int × Int)) (k : Int × Int) : (mget2 (cnt ks) k).getD (.int .i64 0) = .int .i64 (cntV ks k - 1) := by
  rw [mget_cnt, cntV]; split <;> rfl
theorem cnt_wrap (ks : List (Int × Int)) (k : Int × Int) : IntKind.i64.wrap (cntV ks k - 1 + 1) = cntV ks k := by
  rw [cntV]; split <;> decide
theorem mput_fresh {ks : List (Int × Int)} {k : Int × Int} (h : k ∉ ks) : mput2 (cnt ks) k (.int .i64 (cntV ks k)) = cnt (ks ++ [k]) := by
  rw [mput_cnt _ _ _ h, cntV, if_neg h]; simp [cnt]

/-- What is wrong with operations: what a log has, its frontier, the stamps ahead. -/
def lookE (ds : List Done) (fr : Int) : List (Int × Int) → List Op → Int
  | _, [] => 0
  | ks, op :: l => if checkE op ≠ 0 then checkE op else if op.stamp.time ≤ fr then 130 else if hasA ds op.k = true ∨ op.k ∈ ks then 5 else lookE ds fr (ks ++ [op.k]) l
theorem lookE_check {ds : List Done} {fr : Int} {ks : List (Int × Int)} {op : Op} {l : List Op} (h : checkE op ≠ 0) : lookE ds fr ks (op :: l) = checkE op := if_pos h
theorem lookE_old {ds : List Done} {fr : Int} {ks : List (Int × Int)} {op : Op} {l : List Op} (h : checkE op = 0) (h2 : op.stamp.time ≤ fr) : lookE ds fr ks (op :: l) = 130 := by
  rw [lookE, if_neg (by simp [h]), if_pos h2]
theorem lookE_twice {ds : List Done} {fr : Int} {ks : List (Int × Int)} {op : Op} {l : List Op} (h : checkE op = 0) (h2 : ¬ op.stamp.time ≤ fr) (h3 : hasA ds op.k = true ∨ op.k ∈ ks) : lookE ds fr ks (op :: l) = 5 := by
  rw [lookE, if_neg (by simp [h]), if_neg h2, if_pos h3]
theorem lookE_next {ds : List Done} {fr : Int} {ks : List (Int × Int)} {op : Op} {l : List Op} (h : checkE op = 0) (h2 : ¬ op.stamp.time ≤ fr) (h3 : ¬ (hasA ds op.k = true ∨ op.k ∈ ks)) : lookE ds fr ks (op :: l) = lookE ds fr (ks ++ [op.k]) l := by
  rw [lookE, if_neg (by simp [h]), if_neg h2, if_neg h3]
theorem drop_at {α : Type} {l : List α} {i : Nat} (h : i < l.length) (z : α) : l.drop i = l.getD i z :: l.drop (i + 1) := by
  rw [List.drop_eq_getElem_cons h, List.getD_eq_getElem?_getD, List.getElem?_eq_getElem h]; rfl
theorem take_at {α : Type} {l : List α} {i : Nat} (h : i < l.length) (z : α) : l.take (i + 1) = l.take i ++ [l.getD i z] := by
  rw [List.take_add_one, List.getD_eq_getElem?_getD, List.getElem?_eq_getElem h]; rfl
/-- Operations as they come in. -/
def OpsIn (ops : List Op) : Prop := ops.length ≤ 1048576 ∧ ∀ op ∈ ops, OpIn op ∧ OpOk op
theorem look_spec (w : World) (u : PH) (hu : u.le w) (b : Nat) (L Lb : Lay) (p : PL) (hL : LogM u b L Lb p) (hof : ∀ d ∈ p.ds, d.undo.of.oneCell' = true) (hr : Rising (p.ds.map Done.k)) (hl : p.ds.length ≤ 1099511627776) (v : Value) (ops : List Op) (hops : OpsIn ops) (hS : SlR w.ph v 8 (ops.map gOp)) :
    Spec Tryz.prog f_oplog_Log_look [ptr b, v] PH.no w fun rs _ => rs = [.s (.int .i64 (lookE p.ds p.fr [] ops))] := by
  refine spec_val k_oplog_Log_look (Qf := fun rs => rs = [.s (.int .i64 (lookE p.ds p.fr [] ops))]) [.g (.s (ptr b)), .ro v 8 (gOp zOp) (ops.map gOp)] (by simp) (by simpa [AV.ok, u0_no, GV.ok, Value.oneCell', ptr] using hS) ?_
  obtain ⟨ov, mT, mB, hSo, _, _, hs⟩ := hL.look
  simp (maxSteps := 2000000) only [c_oplog_Log_look, ptr, vc_seq, vc_rg, thenQ_n, kKeep_eq, segs_nil, segs_n, ops_nil, ops_cons, vcOp, ev, look, put_mk, keep_mk, keepL, Value.oneCell', cond_true, Nat.reduceEqDiff, ↓reduceIte, reduceCtorEq, Nat.zero_add, initF, initP, List.length_map, ptr]
  intro bm om hom _
  simp (maxSteps := 2000000) only [uni_no_r, vc_seq, vc_block, vc_rg, thenQ_n, kKeep_eq, segs_nil, segs_n, ops_nil, ops_cons, vcOp, ev, look, put_mk, keep_mk, keepL, Value.oneCell', cond_true, Nat.reduceEqDiff, ↓reduceIte, reduceCtorEq]
  refine vc_loop (ι := Nat × Obj) (fun q => ⟨[(0, .g (.s (.pointer (some ⟨b, 0, none⟩)))), (5, .g (.s (.map (some bm)))), (12, .row 1 0 (ops.length)), (13, .g (.s (.int .i64 (ops.length)))), (14, .g (.s (.int .i64 (q.1))))], [(1, .ro 8 (gOp zOp) (ops.map gOp))], [], one bm q.2⟩)
    (fun q => q.1 ≤ ops.length ∧ Map2 q.2 (cnt ((ops.take q.1).map Op.k)) ∧ lookE p.ds p.fr [] ops = lookE p.ds p.fr ((ops.take q.1).map Op.k) (ops.drop q.1)) (fun q => ops.length - q.1) (0, om) ⟨by simp, mapI_2 (hom none), rfl⟩ (ge_of ?_ ?_ rfl rfl rfl) ?_
  · simp [frIn, look]
  · simp [pvIn, look]
  rintro ⟨i, o⟩ ⟨hi, hm, he⟩
  simp only at hi hm he
  generalize hQ : loopQ _ _ _ _ _ = Q
  simp (maxSteps := 2000000) only [c_oplog_Log_look_L0, vc_skip, vc_exit, vc_seq, vc_block, vc_rg, vc_ite, thenQ_n, thenQ_e, kKeep_eq, segs_nil, segs_n, ops_nil, ops_cons, vcOp, ev, look, updL, put_mk, put_mk0, keep_mk, keepL, rowE, rowD, binV, binC, Nat.reduceEqDiff, ↓reduceIte, reduceCtorEq, Nat.zero_add, Bool.and_true, Bool.true_and, true_and, and_true, Int.toNat_natCast, decide_eq_true_eq, decide_eq_false_iff_not, br_t, getT_nil, setT_nil, gStamp_zero, gOp_sz, gOp_fits, gOp_same, gOp_zero, getD_gOp]
  refine ⟨fun hlt => ⟨⟨by omega, by omega⟩, ?_⟩, fun hge => ?_⟩
  case refine_2 =>
    subst hQ
    simp (maxSteps := 2000000) only [vc_ret, vc_seq, vc_rg, thenQ_n, blockQ_e, kKeep_eq, loopQ_e, segs_nil, segs_n, ops_nil, ops_cons, vcOp, ev, look, put_mk, keep_mk, keepL, Value.oneCell', cond_true, ↓reduceIte, finW_r, resL, resOne]
    rw [he, List.drop_eq_nil_of_le (by omega)]
    rfl
  have hlt' : i < ops.length := by omega
  obtain ⟨op, hop⟩ : ∃ op, ops.getD i zOp = op := ⟨_, rfl⟩
  obtain ⟨hin, hok⟩ := hops.2 op (hop ▸ getD_in hlt' zOp)
  have hd := drop_at hlt' zOp
  rw [hop] at hd ⊢
  rw [hd] at he
  refine call_fnv (checkOp_fn op hin) rfl rfl rfl fun _ => ?_
  by_cases hc : checkE op = 0
  case neg =>
    simp (maxSteps := 2000000) only [retS, bne_iff_ne.2 hc, vc_ret, vc_seq, vc_rg, vc_ite, thenQ_n, thenQ_r, blockQ_r, kKeep_eq, segs_nil, segs_n, ops_nil, ops_cons, vcOp, ev, look, put_mk, keep_mk, keepL, binV, binC, Value.oneCell', cond_true, Nat.reduceEqDiff, ↓reduceIte, reduceCtorEq, Bool.true_and, true_and, ↓br_tt]
    subst hQ
    simp (maxSteps := 2000000) only [thenQ_r, blockQ_r, loopQ_r, look, ↓reduceIte, finW_r, resL, resOne]
    rw [he, lookE_check hc]
  simp (maxSteps := 2000000) only [retS, hc, vc_skip, vc_ret, vc_seq, vc_rg, vc_rga, vc_ite, thenQ_n, thenQ_r, blockQ_r, kKeep_eq, segs_nil, segs_n, ops_nil, ops_cons, ot_op, ot_or, vcOp, ev, look, put_mk, keep_mk, keepL, binV, binC, Value.oneCell', cond_true, Nat.reduceEqDiff, ↓reduceIte, reduceCtorEq, List.nil_append, Bool.true_and, true_and, br_t, getT_nil, gStamp_fits, gOp_fld0, gOp_get0]
  generalize hks : (ops.take i).map Op.k = ks at *
  refine (fun (tail : ∀ o', Map2 o' (mput2 (cnt ks) op.k (.int .i64 (cntV ks op.k))) → ∀ σ : SS, Ge σ ⟨[(0, .g (.s (.pointer (some ⟨b, 0, none⟩)))), (5, .g (.s (.map (some bm)))), (7, .ref 7 []), (12, .row 1 0 (ops.length)), (13, .g (.s (.int .i64 (ops.length)))), (14, .g (.s (.int .i64 (i))))], [(1, .ro 8 (gOp zOp) (ops.map gOp)), (7, .box (gOp op))], [], one bm o'⟩ →
    vc ⟨Tryz.prog, 59, w, PH.no⟩ c_oplog_Log_look_R9 (blockQ 1 (thenQ (vc ⟨Tryz.prog, 59, w, PH.no⟩ (.rg [⟨none, [(some 58, .bin .add (.t 14) (.c (.int .i64 1))), (some 14, .mv (.t 58))]⟩] [0, 5, 12, 13, 14]) Q) Q)) σ) => ?main) ?pf
  case main =>
    simp (maxSteps := 2000000) only [Int.reduceBNe, Bool.true_and, true_and, true_imp_iff, false_imp_iff, Bool.false_eq_true]
    have hg := cnt_get ks op.k
    have hw := cnt_wrap ks op.k
    have ge7 : ∀ {m : PH} {fr : List (Nat × SV)}, frIn fr [(0, .g (.s (.pointer (some ⟨b, 0, none⟩)))), (5, .g (.s (.map (some bm)))), (7, .ref 7 []), (12, .row 1 0 (ops.length)), (13, .g (.s (.int .i64 (ops.length)))), (14, .g (.s (.int .i64 (i))))] → Ge ⟨fr, [(1, .ro 8 (gOp zOp) (ops.map gOp)), (7, .box (gOp op))], [], m⟩ ⟨[(0, .g (.s (.pointer (some ⟨b, 0, none⟩)))), (5, .g (.s (.map (some bm)))), (7, .ref 7 []), (12, .row 1 0 (ops.length)), (13, .g (.s (.int .i64 (ops.length)))), (14, .g (.s (.int .i64 (i))))], [(1, .ro 8 (gOp zOp) (ops.map gOp)), (7, .box (gOp op))], [], m⟩ := fun hf => ge_of hf (by simp [pvIn, look]) rfl rfl rfl
    refine ⟨⟨op.k, o, _, rfl, .inl (one_self _ _), hm, ?_⟩, ?_⟩
    · simp (maxSteps := 2000000) only [lkS2, hg, segs_nil, segs_n, ops_nil, ops_cons, ot_op, vcOp, ev, look, put_mk, binV, binC, Value.oneCell', cond_true, cond_false, Nat.reduceEqDiff, ↓reduceIte, Bool.true_and, true_and]
      refine ⟨op.k, o, _, rfl, one_self _ _, hm, fun o1 β ho1 hb1 => ?_⟩
      simp (maxSteps := 2000000) only [one_upd, List.getElem?_cons_succ, List.getElem?_cons_zero, segs_nil, segs_n, ops_nil, ops_cons, ot_op, vcOp, ev, look, put_mk, Nat.reduceEqDiff, ↓reduceIte]
      refine ⟨op.k, o1, _, β, rfl, one_self _ _, ho1, hb1, fun o2 ho2 => ?_⟩
      rw [mput2_ens, hw] at ho2
      simp (maxSteps := 2000000) only [one_upd, thenQ_n, kKeep_eq, segs_nil, ops_nil, ot_done, look, put_mk0, keep_mk, keepL, Nat.reduceEqDiff, ↓reduceIte, reduceCtorEq]
      exact tail o2 ho2 _ (ge7 (by simp [frIn, look]))
    · refine ⟨op.k, o, _, rfl, one_self _ _, hm, fun o1 β ho1 hb1 => ?_⟩
      simp (maxSteps := 2000000) only [one_upd, List.getElem?_cons_succ, List.getElem?_cons_zero, segs_nil, segs_n, ops_nil, ops_cons, ot_op, vcOp, ev, look, put_mk, Nat.reduceEqDiff, ↓reduceIte]
      refine ⟨op.k, o1, _, rfl, .inl (one_self _ _), ho1, ?_⟩
      simp (maxSteps := 2000000) only [lkS2, mget2_ens, hg, segs_nil, segs_n, ops_nil, ops_cons, ot_op, vcOp, ev, look, put_mk, binV, binC, Value.oneCell', cond_true, cond_false, Nat.reduceEqDiff, ↓reduceIte, Bool.true_and, true_and]
      refine ⟨op.k, o1, _, β, rfl, one_self _ _, ho1, hb1, fun o2 ho2 => ?_⟩
      rw [mput2_ens, hw] at ho2
      simp (maxSteps := 2000000) only [one_upd, thenQ_n, kKeep_eq, segs_nil, ops_nil, ot_done, look, put_mk0, keep_mk, keepL, Nat.reduceEqDiff, ↓reduceIte, reduceCtorEq]
      exact tail o2 ho2 _ (ge7 (by simp [frIn, look]))
  case pf =>
    intro o' ho' σ hσ
    unfold c_oplog_Log_look_R9
    rw [vc_seq]
    refine vc_gh_of_ge hσ ?_
    simp (maxSteps := 2000000) only [vc_rga, segs_nil, segs_n, ops_nil, ops_cons, ot_op, ot_or, vcOp, ev, look, put_mk, Nat.reduceEqDiff, ↓reduceIte, reduceCtorEq, List.nil_append, Nat.zero_add, Bool.true_and, true_and, getT_nil, gStamp_fits, gOp_fld0, gOp_get0]
    have hS3 := (hs (C := ⟨Tryz.prog, 59, w, PH.no⟩) (ph := []) (m' := one bm o') (kn_u hu)).2.2.2.1
    have hS2 := (hs (C := ⟨Tryz.prog, 59, w, PH.no⟩) (ph := []) (m' := one bm o') (kn_u hu)).2.2.1
    refine ⟨ld_of _ hS3 rfl ?_, ld_of _ hS3 rfl ?_⟩
    all_goals
      simp (maxSteps := 2000000) only [segs_nil, segs_n, ops_nil, ops_cons, ot_op, vcOp, ev, look, put_mk, Nat.reduceEqDiff, ↓reduceIte, Bool.true_and, true_and, getT_nil, gStamp_fits, gOp_get0]
      refine call_ism _ [.s (.int .i64 (posA p.ds op.k)), .s (.bool (hasA p.ds op.k))] rfl rfl (fun w' vs hv hw' _ _ => ?_) ?_
      · obtain ⟨vs, rfl, _, hv⟩ := argsV_g hv
        obtain ⟨vs, rfl, _, hv⟩ := argsV_g hv
        obtain ⟨vs, rfl, _, hv⟩ := argsV_g hv
        obtain rfl := argsV_nil hv
        exact search_spec w' ov p.ds u (fun b o h => hw' b o (by rw [u0_no]; exact hu b o h)) hSo hof op.stamp hl hr
      simp (maxSteps := 2000000) only [retS, List.getElem?_cons_succ, List.getElem?_cons_zero, vc_seq, vc_block, vc_rgq, thenQ_n, kKeep_eq, segs_nil, segs_n, ops_nil, ops_cons, qsegs_n, qops_cons, ot_done, ot_op, vcqOp, vcOp, isRd, ev, look, put_mk, keep_mk, keepL, GV.getT, Nat.reduceEqDiff, ↓reduceIte, reduceCtorEq, List.nil_append, List.cons_append, Nat.zero_add, Bool.true_and, Bool.not_false, true_and, getT_nil, fits_s, gStamp_fld0, gStamp_get0, gOp_fld0, gOp_get0]
      refine ld_of _ hS2 rfl ?_
      simp (maxSteps := 2000000) only [vc_ret, vc_seq, vc_rg, vc_ite, thenQ_n, thenQ_r, blockQ_r, kKeep_eq, segs_nil, segs_n, segs_g, ops_nil, ops_cons, qsegs_nil, qops_nil, vcOp, RO.isGh, skip_mk, skipL, ev, look, put_mk, keep_mk, keepL, binV, binC, Value.oneCell', cond_true, cond_false, Nat.reduceEqDiff, ↓reduceIte, reduceCtorEq, List.nil_append, Bool.true_and, Bool.not_false, true_and, decide_eq_true_eq, decide_eq_false_iff_not, ↓br_tt, br_t, br_f, getT_nil, gStamp_fits, gOp_fld0, gOp_get0]
      refine ⟨fun h => ?_, fun h => ?_⟩
      · subst hQ
        simp (maxSteps := 2000000) only [thenQ_r, blockQ_r, loopQ_r, look, ↓reduceIte, finW_r, resL, resOne]
        rw [he, lookE_old hc h]
      cases hh : hasA p.ds op.k with
      | true =>
        simp (maxSteps := 2000000) only [false_imp_iff, Bool.true_eq_false, Bool.true_and, true_and, true_imp_iff, false_imp_iff, Bool.true_eq_false]
        subst hQ
        simp (maxSteps := 2000000) only [thenQ_r, blockQ_r, loopQ_r, look, ↓reduceIte, finW_r, resL, resOne]
        rw [he, lookE_twice hc h (.inl hh)]
      | false =>
        simp (maxSteps := 2000000) only [Bool.false_eq_true, Bool.and_true, and_true, true_imp_iff, false_imp_iff, Bool.false_eq_true]
        refine ⟨op.k, o', _, rfl, .inl (one_self _ _), ho', ?_⟩
        simp (maxSteps := 2000000) only [lkS2, mget_put2, Option.getD_some, vc_skip, vc_ret, vc_seq, vc_rg, vc_ite, thenQ_n, thenQ_r, blockQ_n, blockQ_r, kKeep_eq, segs_nil, segs_n, ops_nil, ops_cons, vcOp, ev, look, put_mk, keep_mk, keepL, binV, binC, Value.oneCell', cond_true, cond_false, Nat.reduceEqDiff, ↓reduceIte, reduceCtorEq, Bool.true_and, true_and, decide_eq_true_eq, decide_eq_false_iff_not, ↓br_ft, br_t]
        by_cases hk : op.k ∈ ks
        · simp (maxSteps := 2000000) only [cntV, if_pos hk, Int.reduceGT, Bool.and_true, and_true, true_imp_iff, false_imp_iff, not_true_eq_false]
          subst hQ
          simp (maxSteps := 2000000) only [thenQ_r, blockQ_r, loopQ_r, look, ↓reduceIte, finW_r, resL, resOne]
          rw [he, lookE_twice hc h (.inr hk)]
        · simp (maxSteps := 2000000) only [cntV, if_neg hk, Int.reduceGT, Bool.true_and, true_and, true_imp_iff, false_imp_iff, not_false_eq_true]
          rw [mput_fresh hk] at ho'
          subst hQ; simp only [loopQ_n]; refine ⟨(i + 1, o'), ?_, ?_, ge_of ?_ ?_ rfl rfl rfl⟩
          · refine ⟨by simp only; omega, ?_, ?_⟩
            · simp only
              rw [take_at hlt' zOp, hop, List.map_append, hks]
              exact ho'
            · simp only
              rw [he, lookE_next hc h (by rw [hh]; simpa using hk), take_at hlt' zOp, hop, List.map_append, hks]
              rfl
          · simp only; omega
          · simp only [frIn, look, Nat.reduceEqDiff, ↓reduceIte, reduceCtorEq, Bool.and_true, Bool.true_and, true_and, and_true]
            rw [wrap_n (by have := hops.1; omega)]
            try simp
          · simp [pvIn, look]
end Go.Proofs.YtmjiojflncffeaaGreat.Vc

/- Operations put to their places, plain. -/
set_option linter.unusedVariables false
set_option linter.unusedSimpArgs false
namespace Go.Proofs.YtmjiojflncffeaaGreat.Vc
open Go Go.Proofs

/-- Where the first of what is new stands. -/
def frontA (ds : List Done) : List Op → Nat
  | [] => ds.length
  | op :: _ => posA ds op.k
theorem frontA_le (ds : List Done) (news : List Op) : frontA ds news ≤ ds.length := by
  cases news with
  | nil => exact Nat.le_refl _
  | cons op l => exact posA_le ds op.k
theorem posA_below {ds : List Done} {s : Int × Int} {d : Done} (h : d ∈ ds.take (posA ds s)) : ltK d.k s := by
  have e : ds.take (posA ds s) = ds.takeWhile fun d => decide (ltK d.k s) := (List.prefix_iff_eq_take.1 (List.takeWhile_prefix _)).symm
  rw [e] at h
  have := List.all_takeWhile (p := fun d : Done => decide (ltK d.k s)) (l := ds)
  rw [List.all_eq_true] at this
  simpa using this d h
theorem posA_all {ds : List Done} {s : Int × Int} (h : ∀ d ∈ ds, ltK d.k s) : posA ds s = ds.length := by
  refine posA_of (Nat.le_refl _) (fun j hj => h _ (getD_in hj zDone)) fun hlt => by omega
theorem frontA_all {ds : List Done} {news : List Op} (h : ∀ op ∈ news, ∀ d ∈ ds, ltK d.k op.k) : frontA ds news = ds.length := by
  cases news with
  | nil => rfl
  | cons op l => exact posA_all (h op (by simp))
/-- An operation that is not done yet. -/
def fresh (op : Op) : Done := { zDone with op := op }
theorem fresh_k (op : Op) : (fresh op).k = op.k := rfl

/-- What was looked at and may be. -/
structure Looked (ds : List Done) (fr : Int) (ks : List (Int × Int)) (ops : List Op) : Prop where
  check : ∀ op ∈ ops, checkE op = 0
  above : ∀ op ∈ ops, fr < op.stamp.time
  new : ∀ op ∈ ops, op.k ∉ ds.map Done.k ∧ op.k ∉ ks
  nod : (ops.map Op.k).Nodup
theorem looked : ∀ {ops : List Op} {ds : List Done} {fr : Int} {ks : List (Int × Int)}, lookE ds fr ks ops = 0 → Looked ds fr ks ops
  | [], _, _, _, _ => ⟨by simp, by simp, by simp, by simp⟩
  | op :: l, ds, fr, ks, h => by
    by_cases h1 : checkE op = 0
    · by_cases h2 : op.stamp.time ≤ fr
      · rw [lookE_old h1 h2] at h; cases h
      · by_cases h3 : hasA ds op.k = true ∨ op.k ∈ ks
        · rw [lookE_twice h1 h2 h3] at h; cases h
        · rw [lookE_next h1 h2 h3] at h
          obtain ⟨g1, g2, g3, g4⟩ := looked h
          have h4 : op.k ∉ ds.map Done.k := fun hm => h3 (.inl (by rw [hasA, decide_eq_true hm]))
          refine ⟨fun x hx => ?_, fun x hx => ?_, fun x hx => ?_, ?_⟩
          · rcases List.mem_cons.1 hx with rfl | hx
            · exact h1
            · exact g1 x hx
          · rcases List.mem_cons.1 hx with rfl | hx
            · omega
            · exact g2 x hx
          · rcases List.mem_cons.1 hx with rfl | hx
            · exact ⟨h4, fun hm => h3 (.inr hm)⟩
            · exact ⟨(g3 x hx).1, fun hm => (g3 x hx).2 (List.mem_append_left _ hm)⟩
          · rw [List.map_cons, List.nodup_cons]
            refine ⟨fun hm => ?_, g4⟩
            obtain ⟨y, hy, e⟩ := List.mem_map.1 hm
            exact (g3 y hy).2 (by rw [e]; simp)
    · rw [lookE_check h1] at h; exact absurd h h1
theorem lookE_of : ∀ {ops : List Op} {ds : List Done} {fr : Int} {ks : List (Int × Int)}, Looked ds fr ks ops → lookE ds fr ks ops = 0
  | [], _, _, _, _ => rfl
  | op :: l, ds, fr, ks, h => by
    have h3 : ¬ (hasA ds op.k = true ∨ op.k ∈ ks) := by
      rintro (h1 | h1)
      · exact (h.new op (by simp)).1 (by simpa [hasA] using h1)
      · exact (h.new op (by simp)).2 h1
    rw [lookE_next (h.check op (by simp)) (by have := h.above op (by simp); omega) h3]
    have hn := h.nod
    rw [List.map_cons, List.nodup_cons] at hn
    refine lookE_of ⟨fun x hx => h.check x (List.mem_cons_of_mem _ hx), fun x hx => h.above x (List.mem_cons_of_mem _ hx), fun x hx => ⟨(h.new x (List.mem_cons_of_mem _ hx)).1, fun hm => ?_⟩, hn.2⟩
    rcases List.mem_append.1 hm with hm | hm
    · exact (h.new x (List.mem_cons_of_mem _ hx)).2 hm
    · exact hn.1 (List.mem_map.2 ⟨x, hx, List.mem_singleton.1 hm⟩)

/-- The stamps of all that is there, in order. -/
theorem placed_rising {ds cs : List Done} {news : List Op} (hr : Rising (ds.map Done.k)) (hn : Rising (news.map Op.k)) (hc : Rising (cs.map Done.k)) (hp : cs.Perm (ds.drop (frontA ds news) ++ news.map fresh)) :
    Rising ((ds.take (frontA ds news) ++ cs).map Done.k) := by
  rw [Rising, List.map_append, List.pairwise_append]
  have h1 : Rising ((ds.take (frontA ds news) ++ ds.drop (frontA ds news)).map Done.k) := by rw [List.take_append_drop]; exact hr
  rw [Rising, List.map_append, List.pairwise_append] at h1
  refine ⟨h1.1, hc, fun x hx y hy => ?_⟩
  obtain ⟨d, hd, rfl⟩ := List.mem_map.1 hy
  rcases List.mem_append.1 (hp.mem_iff.1 hd) with hd | hd
  · exact h1.2.2 x hx _ (List.mem_map.2 ⟨d, hd, rfl⟩)
  · obtain ⟨op, hop, rfl⟩ := List.mem_map.1 hd
    obtain ⟨a, ha, rfl⟩ := List.mem_map.1 hx
    cases news with
    | nil => simp at hop
    | cons o l =>
      have h2 : ltK a.k o.k := posA_below ha
      rw [fresh_k]
      rcases List.mem_cons.1 hop with rfl | hop
      · exact h2
      · rw [Rising, List.map_cons, List.pairwise_cons] at hn
        exact ltK_trans h2 (hn.1 _ (List.mem_map.2 ⟨op, hop, rfl⟩))
theorem placed_perm {ds cs : List Done} {news ops : List Op} (hp : cs.Perm (ds.drop (frontA ds news) ++ news.map fresh)) (hn : news.Perm ops) :
    ((ds.take (frontA ds news) ++ cs).map (·.op)).Perm (ds.map (·.op) ++ ops) := by
  rw [List.map_append]
  have h1 := hp.map (·.op)
  rw [List.map_append, List.map_map] at h1
  have h2 : news.map ((·.op) ∘ fresh) = news := by
    rw [show ((·.op) ∘ fresh : Op → Op) = id from rfl, List.map_id]
  rw [h2] at h1
  refine (h1.append_left _).trans ?_
  rw [← List.append_assoc, ← List.map_append, List.take_append_drop]
  exact hn.append_left _
/-- The keys of what is put in order are all different. -/
theorem placed_nodup {ds : List Done} {fr : Int} {ks : List (Int × Int)} {news ops : List Op} (hr : Rising (ds.map Done.k)) (hl : Looked ds fr ks ops) (hn : news.Perm ops) (f : Nat) : ((ds.drop f ++ news.map fresh).map Done.k).Nodup := by
  rw [List.map_append, List.nodup_append]
  refine ⟨?_, ?_, fun a ha b hb => ?_⟩
  · have : (ds.map Done.k).Nodup := hr.imp fun h e => by rw [e] at h; exact ltK_irrefl _ h
    exact (this.sublist ((List.drop_sublist f ds).map _))
  · rw [List.map_map, show (Done.k ∘ fresh) = Op.k from rfl]
    exact (hn.map _).nodup_iff.2 hl.nod
  · rintro rfl
    rw [List.map_map, show (Done.k ∘ fresh) = Op.k from rfl] at hb
    obtain ⟨op, hop, e⟩ := List.mem_map.1 hb
    refine (hl.new op (hn.mem_iff.1 hop)).1 ?_
    rw [e]
    obtain ⟨d, hd, rfl⟩ := List.mem_map.1 ha
    exact List.mem_map.2 ⟨d, List.mem_of_mem_drop hd, rfl⟩

/-- What comes of it. -/
structure Added (p : PL) (ops : List Op) (p' : PL) (n : Int) : Prop where
  perm : (p'.ds.map (·.op)).Perm (p.ds.map (·.op) ++ ops)
  B : p'.B = p.B
  fr : p'.fr = p.fr
  i0 : p'.i0 = p.i0
  red : 0 ≤ p'.red
  red0 : (∀ op ∈ ops, ∀ d ∈ p.ds, ltK d.k op.k) → p'.red = 0
  n : n = ((p'.ds.filter fun d => d.taken && decide (d.k ∈ ops.map Op.k)).length : Nat)
end Go.Proofs.YtmjiojflncffeaaGreat.Vc

/- The code of some functions of the program, its types resolved: printed by a program of this claim. -/
set_option linter.unusedVariables false
set_option maxRecDepth 100000
namespace Go.Proofs.YtmjiojflncffeaaGreat.Vc
open Go Go.Proofs

abbrev f_oplog_Log_Add : Nat := 14
def c_oplog_Log_Add_L0 : Cd :=
 (.seq (.seq (.rg [⟨none, [(some 59, .mv (.t 10)), (some 60, .bin .geq (.t 59) (.c (.int .i64 0)))]⟩] [0, 7, 8, 9, 10, 60])
 (.ite (.t 60)
 .skip
 (.exit 0)))
 (.seq (.block 1 (.rgq [⟨none, [(some 63, .mv (.t 0)), (some 64, .nilc (.t 63)), (some 65, .fldA (.t 64) 0 0), (some 66, .fldA (.t 65) 0 0), (some 67, .ld (.t 66) 1 false), (some 68, .mv (.t 9)), (some 69, .mv (.t 10)), (some 70, .idxS (.t 68) (.t 69) 22), (some 71, .fldA (.t 70) 2 9), (some 72, .ld (.t 71) 13 true)]⟩] [⟨none, [(some 73, .call 44 [(.t 67), (.t 72)])]⟩] [0, 7, 8, 9, 10]))
 (.rg [⟨none, [(some 61, .mv (.t 10)), (some 62, .bin .sub (.t 61) (.c (.int .i64 1))), (some 10, .mv (.t 62))]⟩] [0, 7, 8, 9, 10])))
def c_oplog_Log_Add_R22 : Cd :=
 (.gh (.rg [⟨none, [(some 102, .mv (.t 9)), (some 103, .ld (.t 13) 8 true), (some 104, .bld (.c (.c (.c (.s (.int .i64 0)) (.c (.s (.int .i64 0)) .u)) (.c (.s (.int .i64 0)) (.c (.s (.int .i64 0)) (.c (.s (.int .i64 0)) (.c (.s (.string ⟨#[]⟩)) (.c (.s (.string ⟨#[]⟩)) (.c (.s (.string ⟨#[]⟩)) .u))))))) (.c (.s (.bool false)) (.c (.c (.s (.pointer none)) (.c (.s (.int .i64 0)) (.c (.c (.c (.s (.int .i64 0)) (.c (.s (.int .i64 0)) .u)) (.c (.s (.int .i64 0)) (.c (.s (.int .i64 0)) (.c (.s (.int .i64 0)) (.c (.s (.string ⟨#[]⟩)) (.c (.s (.string ⟨#[]⟩)) (.c (.s (.string ⟨#[]⟩)) .u))))))) (.c (.c (.s (.int .i64 0)) (.c (.s (.string ⟨#[]⟩)) .u)) (.c (.s (.string ⟨#[]⟩)) .u))))) .u))) [(0, (.t 103))]), (some 105, .bldS 97 22 (.c (.c (.c (.s (.int .i64 0)) (.c (.s (.int .i64 0)) .u)) (.c (.s (.int .i64 0)) (.c (.s (.int .i64 0)) (.c (.s (.int .i64 0)) (.c (.s (.string ⟨#[]⟩)) (.c (.s (.string ⟨#[]⟩)) (.c (.s (.string ⟨#[]⟩)) .u))))))) (.c (.s (.bool false)) (.c (.c (.s (.pointer none)) (.c (.s (.int .i64 0)) (.c (.c (.c (.s (.int .i64 0)) (.c (.s (.int .i64 0)) .u)) (.c (.s (.int .i64 0)) (.c (.s (.int .i64 0)) (.c (.s (.int .i64 0)) (.c (.s (.string ⟨#[]⟩)) (.c (.s (.string ⟨#[]⟩)) (.c (.s (.string ⟨#[]⟩)) .u))))))) (.c (.c (.s (.int .i64 0)) (.c (.s (.string ⟨#[]⟩)) .u)) (.c (.s (.string ⟨#[]⟩)) .u))))) .u))) [(.t 104)]), (some 106, .app 97 22 240 (.c (.c (.c (.s (.int .i64 0)) (.c (.s (.int .i64 0)) .u)) (.c (.s (.int .i64 0)) (.c (.s (.int .i64 0)) (.c (.s (.int .i64 0)) (.c (.s (.string ⟨#[]⟩)) (.c (.s (.string ⟨#[]⟩)) (.c (.s (.string ⟨#[]⟩)) .u))))))) (.c (.s (.bool false)) (.c (.c (.s (.pointer none)) (.c (.s (.int .i64 0)) (.c (.c (.c (.s (.int .i64 0)) (.c (.s (.int .i64 0)) .u)) (.c (.s (.int .i64 0)) (.c (.s (.int .i64 0)) (.c (.s (.int .i64 0)) (.c (.s (.string ⟨#[]⟩)) (.c (.s (.string ⟨#[]⟩)) (.c (.s (.string ⟨#[]⟩)) .u))))))) (.c (.c (.s (.int .i64 0)) (.c (.s (.string ⟨#[]⟩)) .u)) (.c (.s (.string ⟨#[]⟩)) .u))))) .u))) (.t 102) (.t 105)), (some 9, .mv (.t 106))]⟩] [0, 9, 11, 89, 90, 91]))
def c_oplog_Log_Add_L1 : Cd :=
 (.seq (.rg [⟨none, [(some 92, .bin .lss (.t 91) (.t 90))]⟩] [0, 9, 11, 89, 90, 91, 92])
 (.seq (.ite (.t 92)
 .skip
 (.exit 2))
 (.seq (.block 3 (.seq (.rg [⟨none, [(some 93, .idxS (.t 89) (.t 91) 8), (some 94, .ld (.t 93) 8 true), (some 13, .new 26 (.c (.c (.s (.int .i64 0)) (.c (.s (.int .i64 0)) .u)) (.c (.s (.int .i64 0)) (.c (.s (.int .i64 0)) (.c (.s (.int .i64 0)) (.c (.s (.string ⟨#[]⟩)) (.c (.s (.string ⟨#[]⟩)) (.c (.s (.string ⟨#[]⟩)) .u)))))))), (none, .st (.t 13) (.t 94) 8)]⟩] [0, 9, 11, 13, 89, 90, 91])
 (.seq (.rga (.op ⟨none, [(some 95, .mv (.t 11))]⟩ (.op ⟨none, [(some 96, .fldA (.t 13) 0 0)]⟩ (.op ⟨none, [(some 97, .ld (.t 96) 2 true)]⟩ (.or (.op ⟨none, [(some 98, .mlk2 (.t 95) (.t 97) (.int .i64 0) false)]⟩ (.op ⟨none, [(some 99, .bin .add (.t 98) (.c (.int .i64 1)))]⟩ (.op ⟨none, [(some 100, .men2 (.t 95) (.t 97) (.int .i64 0))]⟩ (.op ⟨none, [(some 101, .ext (.t 100) 1)]⟩ (.op ⟨none, [(none, .mes2 (.t 95) (.t 101) (.t 99))]⟩ .done))))) (.op ⟨none, [(some 100, .men2 (.t 95) (.t 97) (.int .i64 0))]⟩ (.op ⟨none, [(some 101, .ext (.t 100) 1)]⟩ (.op ⟨none, [(some 98, .mlk2 (.t 95) (.t 97) (.int .i64 0) false)]⟩ (.op ⟨none, [(some 99, .bin .add (.t 98) (.c (.int .i64 1)))]⟩ (.op ⟨none, [(none, .mes2 (.t 95) (.t 101) (.t 99))]⟩ .done))))))))) [0, 9, 11, 13, 89, 90, 91])
 c_oplog_Log_Add_R22)))
 (.rg [⟨none, [(some 107, .bin .add (.t 91) (.c (.int .i64 1))), (some 91, .mv (.t 107))]⟩] [0, 9, 11, 89, 90, 91]))))
def c_oplog_Log_Add_R32 : Cd :=
 (.gh (.rga (.op ⟨none, [(some 141, .mv (.t 0))]⟩ (.op ⟨none, [(some 142, .mv (.t 0))]⟩ (.op ⟨none, [(some 143, .nilc (.t 142))]⟩ (.op ⟨none, [(some 144, .fldA (.t 143) 3 3)]⟩ (.or (.op ⟨none, [(some 145, .ld (.t 144) 1 false)]⟩ (.op ⟨none, [(some 146, .ld (.t 16) 22 true)]⟩ (.op ⟨none, [(some 147, .bldS 97 22 (.c (.c (.c (.s (.int .i64 0)) (.c (.s (.int .i64 0)) .u)) (.c (.s (.int .i64 0)) (.c (.s (.int .i64 0)) (.c (.s (.int .i64 0)) (.c (.s (.string ⟨#[]⟩)) (.c (.s (.string ⟨#[]⟩)) (.c (.s (.string ⟨#[]⟩)) .u))))))) (.c (.s (.bool false)) (.c (.c (.s (.pointer none)) (.c (.s (.int .i64 0)) (.c (.c (.c (.s (.int .i64 0)) (.c (.s (.int .i64 0)) .u)) (.c (.s (.int .i64 0)) (.c (.s (.int .i64 0)) (.c (.s (.int .i64 0)) (.c (.s (.string ⟨#[]⟩)) (.c (.s (.string ⟨#[]⟩)) (.c (.s (.string ⟨#[]⟩)) .u))))))) (.c (.c (.s (.int .i64 0)) (.c (.s (.string ⟨#[]⟩)) .u)) (.c (.s (.string ⟨#[]⟩)) .u))))) .u))) [(.t 146)])]⟩ (.op ⟨none, [(some 148, .app 97 22 240 (.c (.c (.c (.s (.int .i64 0)) (.c (.s (.int .i64 0)) .u)) (.c (.s (.int .i64 0)) (.c (.s (.int .i64 0)) (.c (.s (.int .i64 0)) (.c (.s (.string ⟨#[]⟩)) (.c (.s (.string ⟨#[]⟩)) (.c (.s (.string ⟨#[]⟩)) .u))))))) (.c (.s (.bool false)) (.c (.c (.s (.pointer none)) (.c (.s (.int .i64 0)) (.c (.c (.c (.s (.int .i64 0)) (.c (.s (.int .i64 0)) .u)) (.c (.s (.int .i64 0)) (.c (.s (.int .i64 0)) (.c (.s (.int .i64 0)) (.c (.s (.string ⟨#[]⟩)) (.c (.s (.string ⟨#[]⟩)) (.c (.s (.string ⟨#[]⟩)) .u))))))) (.c (.c (.s (.int .i64 0)) (.c (.s (.string ⟨#[]⟩)) .u)) (.c (.s (.string ⟨#[]⟩)) .u))))) .u))) (.t 145) (.t 147))]⟩ (.op ⟨none, [(some 149, .nilc (.t 141))]⟩ (.op ⟨none, [(some 150, .fldA (.t 149) 3 3)]⟩ (.op ⟨none, [(none, .st (.t 150) (.t 148) 1)]⟩ .done))))))) (.op ⟨none, [(some 146, .ld (.t 16) 22 true)]⟩ (.or (.op ⟨none, [(some 145, .ld (.t 144) 1 false)]⟩ (.op ⟨none, [(some 147, .bldS 97 22 (.c (.c (.c (.s (.int .i64 0)) (.c (.s (.int .i64 0)) .u)) (.c (.s (.int .i64 0)) (.c (.s (.int .i64 0)) (.c (.s (.int .i64 0)) (.c (.s (.string ⟨#[]⟩)) (.c (.s (.string ⟨#[]⟩)) (.c (.s (.string ⟨#[]⟩)) .u))))))) (.c (.s (.bool false)) (.c (.c (.s (.pointer none)) (.c (.s (.int .i64 0)) (.c (.c (.c (.s (.int .i64 0)) (.c (.s (.int .i64 0)) .u)) (.c (.s (.int .i64 0)) (.c (.s (.int .i64 0)) (.c (.s (.int .i64 0)) (.c (.s (.string ⟨#[]⟩)) (.c (.s (.string ⟨#[]⟩)) (.c (.s (.string ⟨#[]⟩)) .u))))))) (.c (.c (.s (.int .i64 0)) (.c (.s (.string ⟨#[]⟩)) .u)) (.c (.s (.string ⟨#[]⟩)) .u))))) .u))) [(.t 146)])]⟩ (.op ⟨none, [(some 148, .app 97 22 240 (.c (.c (.c (.s (.int .i64 0)) (.c (.s (.int .i64 0)) .u)) (.c (.s (.int .i64 0)) (.c (.s (.int .i64 0)) (.c (.s (.int .i64 0)) (.c (.s (.string ⟨#[]⟩)) (.c (.s (.string ⟨#[]⟩)) (.c (.s (.string ⟨#[]⟩)) .u))))))) (.c (.s (.bool false)) (.c (.c (.s (.pointer none)) (.c (.s (.int .i64 0)) (.c (.c (.c (.s (.int .i64 0)) (.c (.s (.int .i64 0)) .u)) (.c (.s (.int .i64 0)) (.c (.s (.int .i64 0)) (.c (.s (.int .i64 0)) (.c (.s (.string ⟨#[]⟩)) (.c (.s (.string ⟨#[]⟩)) (.c (.s (.string ⟨#[]⟩)) .u))))))) (.c (.c (.s (.int .i64 0)) (.c (.s (.string ⟨#[]⟩)) .u)) (.c (.s (.string ⟨#[]⟩)) .u))))) .u))) (.t 145) (.t 147))]⟩ (.op ⟨none, [(some 149, .nilc (.t 141))]⟩ (.op ⟨none, [(some 150, .fldA (.t 149) 3 3)]⟩ (.op ⟨none, [(none, .st (.t 150) (.t 148) 1)]⟩ .done)))))) (.op ⟨none, [(some 147, .bldS 97 22 (.c (.c (.c (.s (.int .i64 0)) (.c (.s (.int .i64 0)) .u)) (.c (.s (.int .i64 0)) (.c (.s (.int .i64 0)) (.c (.s (.int .i64 0)) (.c (.s (.string ⟨#[]⟩)) (.c (.s (.string ⟨#[]⟩)) (.c (.s (.string ⟨#[]⟩)) .u))))))) (.c (.s (.bool false)) (.c (.c (.s (.pointer none)) (.c (.s (.int .i64 0)) (.c (.c (.c (.s (.int .i64 0)) (.c (.s (.int .i64 0)) .u)) (.c (.s (.int .i64 0)) (.c (.s (.int .i64 0)) (.c (.s (.int .i64 0)) (.c (.s (.string ⟨#[]⟩)) (.c (.s (.string ⟨#[]⟩)) (.c (.s (.string ⟨#[]⟩)) .u))))))) (.c (.c (.s (.int .i64 0)) (.c (.s (.string ⟨#[]⟩)) .u)) (.c (.s (.string ⟨#[]⟩)) .u))))) .u))) [(.t 146)])]⟩ (.op ⟨none, [(some 145, .ld (.t 144) 1 false)]⟩ (.op ⟨none, [(some 148, .app 97 22 240 (.c (.c (.c (.s (.int .i64 0)) (.c (.s (.int .i64 0)) .u)) (.c (.s (.int .i64 0)) (.c (.s (.int .i64 0)) (.c (.s (.int .i64 0)) (.c (.s (.string ⟨#[]⟩)) (.c (.s (.string ⟨#[]⟩)) (.c (.s (.string ⟨#[]⟩)) .u))))))) (.c (.s (.bool false)) (.c (.c (.s (.pointer none)) (.c (.s (.int .i64 0)) (.c (.c (.c (.s (.int .i64 0)) (.c (.s (.int .i64 0)) .u)) (.c (.s (.int .i64 0)) (.c (.s (.int .i64 0)) (.c (.s (.int .i64 0)) (.c (.s (.string ⟨#[]⟩)) (.c (.s (.string ⟨#[]⟩)) (.c (.s (.string ⟨#[]⟩)) .u))))))) (.c (.c (.s (.int .i64 0)) (.c (.s (.string ⟨#[]⟩)) .u)) (.c (.s (.string ⟨#[]⟩)) .u))))) .u))) (.t 145) (.t 147))]⟩ (.op ⟨none, [(some 149, .nilc (.t 141))]⟩ (.op ⟨none, [(some 150, .fldA (.t 149) 3 3)]⟩ (.op ⟨none, [(none, .st (.t 150) (.t 148) 1)]⟩ .done))))))))))))) [0, 11, 14, 110, 111, 112]))
def c_oplog_Log_Add_R30 : Cd :=
 (.seq (.seq (.gh (.rg [⟨none, [(some 129, .fldA (.t 16) 1 8), (some 130, .ld (.t 129) 1 false), (some 131, .mv (.t 130))]⟩, ⟨some (131, true), [(some 132, .mv (.t 11)), (some 133, .fldA (.t 16) 0 0), (some 134, .fldA (.t 133) 0 0), (some 135, .ld (.t 134) 2 true), (some 136, .mlk2 (.t 132) (.t 135) (.int .i64 0) false), (some 137, .bin .gtr (.t 136) (.c (.int .i64 0)))]⟩, ⟨none, [(some 138, .pick (.t 131) (.t 137) (.c (.bool false)))]⟩] [0, 11, 14, 16, 110, 111, 112, 138]))
 (.ite (.t 138)
 (.rg [⟨none, [(some 139, .mv (.t 14)), (some 140, .bin .add (.t 139) (.c (.int .i64 1))), (some 14, .mv (.t 140))]⟩] [0, 11, 14, 16, 110, 111, 112])
 .skip))
 c_oplog_Log_Add_R32)
def c_oplog_Log_Add_L2 : Cd :=
 (.seq (.rg [⟨none, [(some 113, .bin .lss (.t 112) (.t 111))]⟩] [0, 11, 14, 110, 111, 112, 113])
 (.seq (.ite (.t 113)
 .skip
 (.exit 4))
 (.seq (.block 5 (.seq (.rg [⟨none, [(some 114, .idxS (.t 110) (.t 112) 22), (some 115, .ld (.t 114) 22 true), (some 16, .new 97 (.c (.c (.c (.s (.int .i64 0)) (.c (.s (.int .i64 0)) .u)) (.c (.s (.int .i64 0)) (.c (.s (.int .i64 0)) (.c (.s (.int .i64 0)) (.c (.s (.string ⟨#[]⟩)) (.c (.s (.string ⟨#[]⟩)) (.c (.s (.string ⟨#[]⟩)) .u))))))) (.c (.s (.bool false)) (.c (.c (.s (.pointer none)) (.c (.s (.int .i64 0)) (.c (.c (.c (.s (.int .i64 0)) (.c (.s (.int .i64 0)) .u)) (.c (.s (.int .i64 0)) (.c (.s (.int .i64 0)) (.c (.s (.int .i64 0)) (.c (.s (.string ⟨#[]⟩)) (.c (.s (.string ⟨#[]⟩)) (.c (.s (.string ⟨#[]⟩)) .u))))))) (.c (.c (.s (.int .i64 0)) (.c (.s (.string ⟨#[]⟩)) .u)) (.c (.s (.string ⟨#[]⟩)) .u))))) .u)))), (none, .st (.t 16) (.t 115) 22)]⟩] [0, 11, 14, 16, 110, 111, 112])
 (.seq (.rga (.op ⟨none, [(some 117, .mv (.t 0))]⟩ (.op ⟨none, [(some 118, .nilc (.t 117))]⟩ (.op ⟨none, [(some 119, .fldA (.t 118) 0 0)]⟩ (.op ⟨none, [(some 120, .fldA (.t 119) 0 0)]⟩ (.op ⟨none, [(some 122, .fldA (.t 16) 0 0)]⟩ (.or (.op ⟨none, [(some 121, .ld (.t 120) 1 false)]⟩ (.op ⟨none, [(some 123, .ld (.t 122) 8 true)]⟩ (.op ⟨none, [(some 124, .call 27 [(.t 121), (.t 123)])]⟩ (.op ⟨none, [(some 116, .mv (.t 124))]⟩ (.op ⟨none, [(some 125, .ext (.t 116) 0)]⟩ (.op ⟨none, [(some 126, .ext (.t 116) 1)]⟩ (.op ⟨none, [(some 127, .fldA (.t 16) 2 9)]⟩ (.op ⟨none, [(none, .st (.t 127) (.t 125) 13)]⟩ (.op ⟨none, [(some 128, .fldA (.t 16) 1 8)]⟩ (.op ⟨none, [(none, .st (.t 128) (.t 126) 1)]⟩ .done)))))))))) (.op ⟨none, [(some 123, .ld (.t 122) 8 true)]⟩ (.op ⟨none, [(some 121, .ld (.t 120) 1 false)]⟩ (.op ⟨none, [(some 124, .call 27 [(.t 121), (.t 123)])]⟩ (.op ⟨none, [(some 116, .mv (.t 124))]⟩ (.op ⟨none, [(some 125, .ext (.t 116) 0)]⟩ (.op ⟨none, [(some 126, .ext (.t 116) 1)]⟩ (.op ⟨none, [(some 127, .fldA (.t 16) 2 9)]⟩ (.op ⟨none, [(none, .st (.t 127) (.t 125) 13)]⟩ (.op ⟨none, [(some 128, .fldA (.t 16) 1 8)]⟩ (.op ⟨none, [(none, .st (.t 128) (.t 126) 1)]⟩ .done)))))))))))))))) [0, 11, 14, 16, 110, 111, 112])
 c_oplog_Log_Add_R30)))
 (.rg [⟨none, [(some 151, .bin .add (.t 112) (.c (.int .i64 1))), (some 112, .mv (.t 151))]⟩] [0, 11, 14, 110, 111, 112]))))
def c_oplog_Log_Add_R11 : Cd :=
 (.seq (.gh (.rg [⟨none, [(some 49, .mv (.t 0)), (some 50, .nilc (.t 49)), (some 51, .fldA (.t 50) 3 3), (some 52, .ld (.t 51) 1 false), (some 53, .mv (.t 8)), (none, .gh), (some 54, .sl 22 (.t 52) (some (.t 53)) none), (some 55, .call 43 [(.t 54)]), (some 9, .mv (.t 55))]⟩] [0, 7, 8, 9]))
 (.seq (.seq (.rg [⟨none, [(none, .gh), (some 56, .mv (.t 9)), (some 57, .len (.t 56)), (some 58, .bin .sub (.t 57) (.c (.int .i64 1))), (some 10, .mv (.t 58))]⟩] [0, 7, 8, 9, 10])
 (.block 0 (.loop c_oplog_Log_Add_L0)))
 (.seq (.rg [⟨none, [(some 74, .mv (.t 0)), (some 75, .mv (.t 0)), (some 76, .mv (.t 0)), (some 77, .nilc (.t 76)), (some 78, .fldA (.t 77) 3 3), (some 79, .ld (.t 78) 1 false), (some 80, .mv (.t 8)), (none, .gh), (some 81, .sl 22 (.t 79) none (some (.t 80))), (some 82, .mv (.t 9)), (some 83, .len (.t 82)), (some 84, .nilc (.t 74)), (some 85, .fldA (.t 84) 3 3), (none, .st (.t 85) (.t 81) 1), (some 86, .nilc (.t 75)), (some 87, .fldA (.t 86) 4 4), (none, .st (.t 87) (.t 83) 1)]⟩] [0, 7, 9])
 (.seq (.rg [⟨none, [(some 88, .mkm), (some 11, .mv (.t 88))]⟩] [0, 7, 9, 11])
 (.seq (.seq (.rg [⟨none, [(some 89, .mv (.t 7)), (some 90, .len (.t 89)), (some 91, .mv (.c (.int .i64 0)))]⟩] [0, 9, 11, 89, 90, 91])
 (.block 2 (.loop c_oplog_Log_Add_L1)))
 (.seq (.rg [⟨none, [(none, .gh), (some 108, .mv (.t 9)), (some 109, .call 45 [(.t 108), (.c (.func (.func 46) #[] #[]))])]⟩] [0, 9, 11])
 (.seq (.rg [⟨none, [(some 14, .mv (.c (.int .i64 0)))]⟩] [0, 9, 11, 14])
 (.seq (.seq (.rg [⟨none, [(none, .gh), (some 110, .mv (.t 9)), (some 111, .len (.t 110)), (some 112, .mv (.c (.int .i64 0)))]⟩] [0, 11, 14, 110, 111, 112])
 (.block 4 (.loop c_oplog_Log_Add_L2)))
 (.seq (.rg [⟨none, [(some 152, .mv (.t 14)), (some 4, .mv (.t 152)), (some 5, .mv (.c (.int .i64 0)))]⟩] [4, 5])
 .ret)))))))))
def c_oplog_Log_Add : Cd :=
 (.seq (.rg [⟨none, [(some 4, .mv (.c (.int .i64 0))), (some 5, .mv (.c (.int .i64 0)))]⟩] [0, 1])
 (.seq (.seq (.rg [⟨none, [(some 17, .mv (.t 0)), (some 18, .call 35 [(.t 17)])]⟩] [0, 1, 18])
 (.ite (.t 18)
 (.seq (.rg [⟨none, [(some 4, .mv (.c (.int .i64 0))), (some 5, .mv (.c (.int .i64 2)))]⟩] [4, 5])
 .ret)
 .skip))
 (.seq (.seq (.rg [⟨none, [(some 19, .mv (.t 0)), (some 20, .mv (.t 1)), (some 21, .call 36 [(.t 19), (.t 20)]), (some 6, .mv (.t 21))]⟩] [0, 1, 6])
 (.seq (.rg [⟨none, [(some 22, .mv (.t 6)), (some 23, .bin .neq (.t 22) (.c (.int .i64 0)))]⟩] [0, 1, 6, 23])
 (.ite (.t 23)
 (.seq (.rg [⟨none, [(some 24, .mv (.t 6)), (some 4, .mv (.c (.int .i64 0))), (some 5, .mv (.t 24))]⟩] [4, 5])
 .ret)
 .skip)))
 (.seq (.rg [⟨none, [(some 25, .mv (.t 1)), (some 26, .call 37 [(.t 25)]), (some 7, .mv (.t 26))]⟩] [0, 7])
 (.seq (.rg [⟨none, [(some 27, .mv (.t 7)), (some 28, .call 38 [(.t 27), (.c (.func (.func 39) #[] #[]))])]⟩] [0, 7])
 (.seq (.rg [⟨none, [(none, .gh), (some 29, .mv (.t 0)), (some 30, .nilc (.t 29)), (some 31, .fldA (.t 30) 3 3), (some 32, .ld (.t 31) 1 false), (some 33, .len (.t 32)), (some 8, .mv (.t 33))]⟩] [0, 7, 8])
 (.seq (.seq (.rg [⟨none, [(some 34, .mv (.t 7)), (some 35, .len (.t 34)), (some 36, .bin .gtr (.t 35) (.c (.int .i64 0)))]⟩] [0, 7, 8, 36])
 (.ite (.t 36)
 (.rga (.op ⟨none, [(some 38, .mv (.t 0))]⟩ (.op ⟨none, [(some 39, .nilc (.t 38))]⟩ (.op ⟨none, [(some 40, .fldA (.t 39) 3 3)]⟩ (.op ⟨none, [(some 42, .mv (.t 7))]⟩ (.op ⟨none, [(some 43, .idxS (.t 42) (.c (.int .i64 0)) 8)]⟩ (.op ⟨none, [(some 44, .fldA (.t 43) 0 0)]⟩ (.or (.op ⟨none, [(some 41, .ld (.t 40) 1 false)]⟩ (.op ⟨none, [(some 45, .ld (.t 44) 2 true)]⟩ (.op ⟨none, [(some 46, .call 41 [(.t 41), (.t 45), (.c (.func (.func 42) #[] #[]))])]⟩ (.op ⟨none, [(some 37, .mv (.t 46))]⟩ (.op ⟨none, [(some 47, .ext (.t 37) 0)]⟩ (.op ⟨none, [(some 48, .ext (.t 37) 1)]⟩ (.op ⟨none, [(some 8, .mv (.t 47))]⟩ .done))))))) (.op ⟨none, [(some 45, .ld (.t 44) 2 true)]⟩ (.op ⟨none, [(some 41, .ld (.t 40) 1 false)]⟩ (.op ⟨none, [(some 46, .call 41 [(.t 41), (.t 45), (.c (.func (.func 42) #[] #[]))])]⟩ (.op ⟨none, [(some 37, .mv (.t 46))]⟩ (.op ⟨none, [(some 47, .ext (.t 37) 0)]⟩ (.op ⟨none, [(some 48, .ext (.t 37) 1)]⟩ (.op ⟨none, [(some 8, .mv (.t 47))]⟩ .done)))))))))))))) [0, 7, 8])
 .skip))
 c_oplog_Log_Add_R11)))))))
theorem k_oplog_Log_Add : Ok Tryz.prog 14 c_oplog_Log_Add 153 [(10, 999999), (15, 10), (21, 999999), (29, 999999), (32, 999999)] [.tmp 4, .tmp 5] := Ok.mk' Tryz.func14 (by kernel_rfl) (by kernel_rfl) (by kernel_rfl)

abbrev f_law13_live : Nat := 13
def c_law13_live : Cd :=
 (.seq (.rg [⟨none, [(some 0, .mv (.c (.bool false)))]⟩] [])
 (.seq (.rg [⟨none, [(some 4, .call 12 []), (some 1, .mv (.t 4))]⟩] [1])
 (.seq (.seq (.rg [⟨none, [(some 5, .mv (.t 1)), (some 6, .eqA false 27 (.t 5) (.c (.pointer none)))]⟩] [1, 6])
 (.ite (.t 6)
 (.seq (.rg [⟨none, [(some 0, .mv (.c (.bool false)))]⟩] [0])
 .ret)
 .skip))
 (.seq (.rg [⟨none, [(some 8, .mv (.t 1)), (some 9, .bld (.c (.s (.int .i64 0)) (.c (.s (.int .i64 0)) .u)) [(0, (.c (.int .i64 1)))]), (some 10, .bld (.c (.c (.s (.int .i64 0)) (.c (.s (.int .i64 0)) .u)) (.c (.s (.int .i64 0)) (.c (.s (.int .i64 0)) (.c (.s (.int .i64 0)) (.c (.s (.string ⟨#[]⟩)) (.c (.s (.string ⟨#[]⟩)) (.c (.s (.string ⟨#[]⟩)) .u))))))) [(0, (.t 9)), (1, (.c (.int .i64 1))), (2, (.c (.int .i64 24))), (3, (.c (.int .i64 1))), (4, (.c (.string ⟨#[97]⟩)))]), (some 11, .bldS 26 8 (.c (.c (.s (.int .i64 0)) (.c (.s (.int .i64 0)) .u)) (.c (.s (.int .i64 0)) (.c (.s (.int .i64 0)) (.c (.s (.int .i64 0)) (.c (.s (.string ⟨#[]⟩)) (.c (.s (.string ⟨#[]⟩)) (.c (.s (.string ⟨#[]⟩)) .u))))))) [(.t 10)]), (some 12, .call 14 [(.t 8), (.t 11)]), (some 7, .mv (.t 12)), (some 13, .ext (.t 7) 0), (some 14, .ext (.t 7) 1), (some 2, .mv (.t 13)), (some 3, .mv (.t 14))]⟩] [1, 2, 3])
 (.seq (.rg [⟨none, [(some 15, .mv (.t 2)), (some 16, .bin .eql (.t 15) (.c (.int .i64 1))), (some 17, .mv (.t 16))]⟩, ⟨some (17, true), [(some 18, .mv (.t 3)), (some 19, .bin .eql (.t 18) (.c (.int .i64 0)))]⟩, ⟨none, [(some 20, .pick (.t 17) (.t 19) (.c (.bool false))), (some 21, .mv (.t 20))]⟩, ⟨some (21, true), [(some 22, .mv (.t 1)), (some 23, .call 22 [(.t 22)]), (some 24, .bin .eql (.t 23) (.c (.int .i64 1)))]⟩, ⟨none, [(some 25, .pick (.t 21) (.t 24) (.c (.bool false))), (some 26, .mv (.t 25))]⟩, ⟨some (26, true), [(some 27, .mv (.t 1)), (some 28, .call 23 [(.t 27), (.c (.int .i64 1))]), (some 29, .bin .eql (.t 28) (.c (.int .i64 0)))]⟩, ⟨none, [(some 30, .pick (.t 26) (.t 29) (.c (.bool false))), (some 31, .mv (.t 30))]⟩, ⟨some (31, true), [(some 32, .mv (.t 1)), (some 33, .call 22 [(.t 32)]), (some 34, .bin .eql (.t 33) (.c (.int .i64 0)))]⟩, ⟨none, [(some 35, .pick (.t 31) (.t 34) (.c (.bool false))), (some 36, .mv (.t 35))]⟩, ⟨some (36, true), [(some 37, .mv (.t 1)), (some 38, .call 28 [(.t 37)]), (some 39, .len (.t 38)), (some 40, .bin .eql (.t 39) (.c (.int .i64 1)))]⟩, ⟨none, [(some 41, .pick (.t 36) (.t 40) (.c (.bool false))), (some 0, .mv (.t 41))]⟩] [0])
 .ret)))))
theorem k_law13_live : Ok Tryz.prog 13 c_law13_live 42 [] [.tmp 0] := Ok.mk' Tryz.func13 (by kernel_rfl) (by kernel_rfl) (by kernel_rfl)

end Go.Proofs.YtmjiojflncffeaaGreat.Vc

/- A call that has memory at its disposal, and reads what lies apart from it. -/
set_option linter.unusedVariables false
set_option linter.unusedSimpArgs false
namespace Go.Proofs.YtmjiojflncffeaaGreat.Vc
open Go

/-- All of memory but this. -/
def but (w : World) (m : PH) : PH := fun k => if (m k).isNone then w.heap[k]? else none
theorem but_at {w : World} {m : PH} {b : Nat} {o : Obj} (h1 : m b = none) (h2 : w.heap[b]? = some o) : but w m b = some o := by
  unfold but; rw [h1]; exact h2
theorem but_u0 {P : Program} {N : Nat} {w : World} {m : PH} : Ctx.u0 ⟨P, N, w, m⟩ = but w m := rfl
/-- What an argument is, for who is called with m1. -/
def ArgB (C : Ctx) (σ : SS) (w : World) (m1 : PH) : SV → Value → Prop
  | .g x, v => x.ok ∧ v = x.val
  | .row k o n, v => ∃ z xs, rowE σ.pv k = some (z, xs) ∧ o + n ≤ xs.length ∧ SlR (but w m1) v z ((xs.drop o).take n)
  | _, _ => True
def ArgsB (C : Ctx) (σ : SS) (w : World) (m1 : PH) : List SV → List Value → Prop
  | [], [] => True
  | x :: xs, v :: vs => ArgB C σ w m1 x v ∧ ArgsB C σ w m1 xs vs
  | _, _ => False
section
variable {C : Ctx} {σ : SS} {a : Act} {w : World} {loc : Loc}
theorem HR.u0apart (hH : HR C loc σ.pv σ.ph σ.m w) {b : Nat} {o : Obj} (hb : C.u0 b = some o) : σ.m b = none := by
  cases h1 : σ.m b with
  | none => rfl
  | some x =>
    have hmine := hH.mmine b (by rw [h1]; simp)
    unfold Ctx.u0 at hb
    split at hb
    · rename_i h2
      have h2 : C.m0 b = none := by simpa using h2
      have hlt : b < C.w0.heap.size := (Array.getElem?_eq_some_iff.1 hb).1
      exact (hmine.elim (fun h => by omega) fun h => absurd h2 h)
    · cases hb
theorem HR.slrB (hH : HR C loc σ.pv σ.ph σ.m w) {m1 : PH} (hm1 : ∀ b, σ.m b = none → m1 b = none) {k z s n : Nat} {xs : List GV} {v : Value} (hr : rowE σ.pv k = some (z, xs)) (hn : s + n ≤ xs.length) (hv : SlcV (loc k) z s n v) : SlR (but w m1) v z ((xs.drop s).take n) := by
  have hrow := hH.row hr
  have hlen : ((xs.drop s).take n).length = n := by simp; omega
  refine ⟨hrow.1.part s n, ?_⟩
  have hblk : ∀ b f c, loc k = some (b, f, c) → xs.length ≤ c ∧ (0 < c → ∃ cs e fz, w.heap[b]? = some (.cells cs e fz) ∧ RowAt cs f (flats xs) ∧ m1 b = none) := by
    intro b f c hc
    unfold rowE at hr
    cases hl : look σ.pv k with
    | none => simp [hl] at hr
    | some y =>
      have hp := hH.pvs k y hl
      cases y with
      | box g => simp [hl] at hr
      | row e z' df xs' =>
        simp [hl] at hr
        obtain ⟨rfl, rfl⟩ := hr
        have hp2 := hp.2
        rw [hc] at hp2
        obtain ⟨cs, hb, h1, h2, h3⟩ := hp2
        exact ⟨h1, fun _ => ⟨cs, e, (0, 0), hb, h3, hm1 b (hH.priv k _ b f c hl rfl hc).2.1⟩⟩
      | ro z' df xs' =>
        simp [hl] at hr
        obtain ⟨rfl, rfl⟩ := hr
        have hp2 := hp.2
        rw [hc] at hp2
        obtain ⟨h1, hp3⟩ := hp2
        refine ⟨h1, fun hc0 => ?_⟩
        obtain ⟨u, cs, e, fz, hu, hb, h3⟩ := hp3 hc0
        rcases hu with rfl | hu
        · exact ⟨cs, e, fz, hH.u0le b _ hb, h3, hm1 b (hH.u0apart hb)⟩
        · exact ⟨cs, e, fz, (hH.phs u hu).1 b _ hb, h3, hm1 b ((hH.phs u hu).2 b (by rw [hb]; simp)).2⟩
  cases hc : loc k with
  | none =>
    rw [hc] at hv hrow
    have h2 := hrow.2
    simp only at h2
    subst h2
    obtain ⟨base, hv⟩ := hv
    have hn0 : n = 0 := by simp at hn; omega
    subst hn0
    cases base with
    | none => exact .inl ⟨hv, by simp⟩
    | some ad => exact .inr ⟨ad, 0, by rw [hv]; simp, by simp, fun h => absurd h (by omega)⟩
  | some L =>
    obtain ⟨b, f, c⟩ := L
    rw [hc] at hv
    obtain ⟨ad, rfl, had⟩ := hv
    obtain ⟨h1, hb0⟩ := hblk b f c hc
    refine .inr ⟨ad, c - s, by rw [hlen], by rw [hlen]; omega, fun hcs => ?_⟩
    obtain ⟨cs, e, fz, hb, hat, hm⟩ := hb0 (by omega)
    rw [had (by omega)]
    refine ⟨cs, e, fz, rfl, but_at hm hb, fun j v hj => ?_⟩
    rw [Nat.add_assoc]
    exact hat _ _ (flats_part hrow.1 hn j v hj)
theorem argsB_of (hF : FR loc C.N σ.fr σ.pv σ.ph a) (hH : HR C loc σ.pv σ.ph σ.m w) {m1 : PH} (hm1 : ∀ b, σ.m b = none → m1 b = none) : ∀ {args : List Opd} {svs : List SV}, evL σ args = some svs → ArgsB C σ w m1 svs (args.map (evO a))
  | [], svs, h => by simp [evL] at h; subst h; trivial
  | x :: l, svs, h => by
    simp only [evL] at h
    split at h
    · rename_i y r hy hr
      simp at h; subst h
      refine ⟨?_, argsB_of hF hH hm1 hr⟩
      have hs := hF.ev rfl hy
      cases y with
      | g x => exact hs
      | row k s n =>
        obtain ⟨z, xs, h1, h2, h3⟩ := hs
        exact ⟨z, xs, h1, h2, hH.slrB hm1 h1 h2 h3⟩
      | _ => trivial
    · cases h
/-- A call that has m1 at its disposal, and may read all else. -/
theorem call_split {f : Nat} {args : List Opd} {d : Option Nat} {K : KT} {svs : List SV} {Q : List GV → PH → Prop} (m1 mr : PH) (hd : dOk d C.N = true) (ha : evL σ args = some svs) (hm : σ.m = uni m1 mr) (hdis : dis m1 mr)
    (hs : ∀ w vs, ArgsB C σ w m1 svs vs → PH.sub C.u0 (but w m1) → (∀ u ∈ σ.ph, PH.sub u (but w m1)) → PH.sub mr (but w m1) → Spec C.P f vs m1 w Q)
    (hK : ∀ rs m', (∀ r ∈ rs, r.ok) → Q rs m' → dis m' mr → K ({ σ with m := uni m' mr }.put d (retS rs))) : vcCall C f args d K σ := by
  constructor
  rintro a w ⟨loc, hF, hH⟩
  have hle1 : m1.le w := fun b o hb => hH.mle b o (by rw [hm]; simp [uni, hb])
  have hm1 : ∀ b, σ.m b = none → m1 b = none := fun b hb => by
    rw [hm] at hb
    cases h1 : m1 b with
    | none => rfl
    | some o => simp [uni, h1] at hb
  refine (hs w _ (argsB_of hF hH hm1 ha) (fun b o h => but_at (hm1 b (hH.u0apart h)) (hH.u0le b o h)) (fun u hu b o h => but_at (hm1 b ((hH.phs u hu).2 b (by rw [h]; simp)).2) ((hH.phs u hu).1 b o h)) (fun b o h => ?_) hle1).mono fun e w' he => ?_
  · refine but_at ?_ (hH.mle b o (by rw [hm]; exact sub_uni_r hdis b o h))
    rcases hdis b with h1 | h1
    · exact h1
    · rw [h1] at h; cases h
  obtain ⟨rs, m', rfl, hrs, hq, hle, hdom, hk⟩ := he
  refine ⟨_, rfl, ?_⟩
  obtain ⟨h1, h2, h3, hdd⟩ := hH.after hm hdis hle hdom hk
  obtain ⟨q1, q2, q3⟩ := ({ σ with m := uni m' mr } : SS).put_pv d (retS rs)
  exact ⟨_, hK rs m' hrs hq hdd, loc, by rw [q1, q2]; exact hF.put (σ := { σ with m := uni m' mr }) (dOk_spec hd) rfl (retS_ok hrs), by rw [q1, q2, q3]; exact h1⟩
theorem argsB_nil {w : World} {m1 : PH} {vs : List Value} (h : ArgsB C σ w m1 [] vs) : vs = [] := by
  cases vs with
  | nil => rfl
  | cons v vs => exact h.elim
theorem argsB_g {w : World} {m1 : PH} {x : GV} {svs : List SV} {vs : List Value} (h : ArgsB C σ w m1 (.g x :: svs) vs) : ∃ vs', vs = x.val :: vs' ∧ x.ok ∧ ArgsB C σ w m1 svs vs' := by
  cases vs with
  | nil => exact h.elim
  | cons v vs => exact ⟨vs, by rw [h.1.2], h.1.1, h.2⟩
theorem argsB_part {w : World} {m1 : PH} {k n o z : Nat} {xs : List GV} {svs : List SV} {vs : List Value} (hr : rowE σ.pv k = some (z, xs)) (h : ArgsB C σ w m1 (.row k o n :: svs) vs) : ∃ v vs', vs = v :: vs' ∧ SlR (but w m1) v z ((xs.drop o).take n) ∧ ArgsB C σ w m1 svs vs' := by
  cases vs with
  | nil => exact h.elim
  | cons v vs =>
    obtain ⟨⟨z', xs', h1, h2, h3⟩, h4⟩ := h
    rw [hr] at h1
    simp only [Option.some.injEq, Prod.mk.injEq] at h1
    obtain ⟨rfl, rfl⟩ := h1
    exact ⟨v, vs, rfl, h3, h4⟩
theorem argsB_row {w : World} {m1 : PH} {k n z : Nat} {xs : List GV} {svs : List SV} {vs : List Value} (hr : rowE σ.pv k = some (z, xs)) (hn : n = xs.length) (h : ArgsB C σ w m1 (.row k 0 n :: svs) vs) : ∃ v vs', vs = v :: vs' ∧ SlR (but w m1) v z xs ∧ ArgsB C σ w m1 svs vs' := by
  obtain ⟨v, vs', h1, h2, h3⟩ := argsB_part hr h
  refine ⟨v, vs', h1, ?_, h3⟩
  rwa [List.drop_zero, hn, List.take_length] at h2
end
end Go.Proofs.YtmjiojflncffeaaGreat.Vc

/- Operations put to their places in a log: ahead of the walk. -/
set_option linter.unusedVariables false
set_option linter.unusedSimpArgs false
set_option maxRecDepth 100000
namespace Go.Proofs.YtmjiojflncffeaaGreat.Vc
open Go Go.Proofs

theorem eqUndoZ : EqG Tryz.prog 71 (gUndo zUndo) (gUndo zUndo) true := fun x y w => ⟨by kernel_rfl, by kernel_rfl⟩
theorem Back_zero (w : World) (m : PH) (L : Lay) (T : PT) (hT : TM m L T) : Spec Tryz.prog f_tree_Tree_Back [ptr (L .t), (gUndo zUndo).val] m w fun rs m' => rs = [.s (.int .i64 0)] ∧ TM m' L T := by
  refine spec_of k_tree_Tree_Back [.g (.s (ptr (L .t))), .g (gUndo zUndo)] (by simp) (by simp [AV.ok, GV.ok, Value.oneCell', ptr, gUndo_ok zUndo rfl]) ?_
  simp (maxSteps := 2000000) only [c_tree_Tree_Back, vc_seq, vc_rg, thenQ_n, kKeep_eq, segs_nil, segs_n, ops_nil, ops_cons, vcOp, ev, look, updL, put_mk, keep_mk, keepL, Value.oneCell', cond_true, Nat.reduceEqDiff, ↓reduceIte, reduceCtorEq, Nat.zero_add, Bool.true_and, true_and, initF, initP, gStamp_zero, gOp_zero, gPlace_zero, gUndo_zero, ptr]
  refine call_ism _ [.s (.bool false)] rfl rfl (fun w' vs hv _ _ hm => ?_) ?_
  · obtain ⟨vs, rfl, _, hv⟩ := argsV_g hv
    obtain rfl := argsV_nil hv
    exact none_spec hm hT
  simp (maxSteps := 2000000) only [retS, vc_skip, vc_seq, vc_rg, vc_ite, thenQ_n, kKeep_eq, segs_nil, segs_n, ops_nil, ops_cons, vcOp, ev, evL, gvL, look, put_mk, keep_mk, keepL, Nat.reduceEqDiff, ↓reduceIte, reduceCtorEq, Bool.true_and, true_and, List.map_nil, ↓br_ft, GV.bldT, GV.bldC, getT_nil, gUndo_fits]
  refine eq_of eqUndoZ ?_
  simp (maxSteps := 2000000) only [vc_ret, vc_seq, vc_rg, vc_ite, thenQ_n, thenQ_r, kKeep_eq, finQ_r, segs_nil, segs_n, ops_nil, ops_cons, vcOp, ev, look, put_mk, keep_mk, keepL, Value.oneCell', cond_true, Nat.reduceEqDiff, ↓reduceIte, reduceCtorEq, ↓br_tt, Bool.bne_false]
  exact fin_m m rfl (fun _ _ h => h) ⟨rfl, hT⟩
/-- The beginning of a slice that lies anywhere. -/
theorem ops_take {C : Ctx} {σ : SS} {t z : Nat} {x : Opd} {hi : Option Opd} {r : List (Option Nat × RO)} {K : KT} {v : Value} {e : TypeId} {u : PH} {xs : List GV} {h : Nat} (hx : ev σ x = some (.g (.s v))) (hs : SlO u v e z xs) (hhi : ∀ d : Nat, bndN σ hi d = some h)
    (h2 : h ≤ xs.length) (hK : ∀ v', v'.oneCell' = true → SlO u v' e z (xs.take h) → vcSegOps C r K (σ.put (some t) (.g (.s v')))) : vcSegOps C ((some t, .sl z x none hi) :: r) K σ := by
  rw [ops_cons]
  simp only [vcOp, hx]
  have hlo : ∀ d : Nat, bndN σ none d = some d := fun d => rfl
  have hw := hs
  obtain ⟨hels, ⟨rfl, rfl⟩ | ⟨⟨b, o, sp⟩, c, rfl, hc, hs⟩⟩ := hs
  · obtain rfl : h = 0 := by simpa using h2
    simp only [hlo, hhi]
    exact ⟨⟨rfl, rfl⟩, hK _ rfl hw⟩
  · cases sp with
    | none =>
      simp only [hlo, hhi]
      refine ⟨⟨hc, by omega, by omega, by omega⟩, ?_⟩
      have := SlO.take (ad' := some ⟨b, o, none⟩) hw rfl h2 rfl
      have e1 : (if c = (0 : Int).toNat then o else o + (0 : Int).toNat * z) = o := by
        split <;> simp
      simp only [Int.toNat_natCast, Int.toNat_zero, Nat.sub_zero, Nat.zero_mul, Nat.add_zero, ite_self]
      exact hK _ rfl this
    | some sp =>
      have hc0 : c = 0 := by
        rcases Nat.eq_zero_or_pos c with h | h
        · exact h
        · obtain ⟨_, g, _⟩ := hs h
          cases g
      subst hc0
      have hx0 : xs = [] := List.length_eq_zero_iff.1 (by omega)
      subst hx0
      obtain rfl : h = 0 := by simpa using h2
      simp only [hlo, hhi, List.length_nil]
      exact ⟨⟨rfl, rfl⟩, hK _ rfl hw⟩
theorem upd_upd2 (m : PH) (b : Nat) (x y : Obj) : (m.upd b x).upd b y = m.upd b y := by
  funext k
  simp only [PH.upd]
  split <;> rfl
theorem count_snoc (P : Done → Bool) (rs : List Done) (d : Done) : ((rs ++ [d]).filter P).length = (rs.filter P).length + (if P d = true then 1 else 0) := by
  rw [List.filter_append, List.length_append]
  cases h : P d <;> simp [List.filter_cons, h]
/-- What Add answers. -/
def AddQ (b : Nat) (L Lb : Lay) (p : PL) (kb q : Nat) (ops : List Op) (rs : List GV) (m' : PH) : Prop :=
  (lookE p.ds p.fr [] ops ≠ 0 → rs = [.s (.int .i64 0), .s (.int .i64 (lookE p.ds p.fr [] ops))] ∧ LogM m' b L Lb p) ∧
  (lookE p.ds p.fr [] ops = 0 → ∃ L' p' n, L' .t = L .t ∧ L' .mk = L .mk ∧ rs = [.s (.int .i64 n), .s (.int .i64 0)] ∧ LogM m' b L' Lb p' ∧ p'.good (ptr (L .mk)) kb (q + p.ds.length + ops.length) ∧ Added p ops p' n)
/-- Operations put to their places. -/
theorem add_spec (w : World) (m : PH) (b : Nat) (L Lb : Lay) (p : PL) (hL : LogM m b L Lb p) {kb q : Nat} (hg : p.good (ptr (L .mk)) kb q) (v : Value) (ops : List Op) (hops : OpsIn ops) (hS : SlR (but w m) v 8 (ops.map gOp))
    (hq : q + p.ds.length + ops.length < 1099511627776) (hfew : p.ds.length ≤ 1048576) :
    Spec Tryz.prog f_oplog_Log_Add [ptr b, v] m w (AddQ b L Lb p kb q ops) := by
  refine spec_of k_oplog_Log_Add [.g (.s (ptr b)), .ro v 8 (gOp zOp) (ops.map gOp)] (by simp) (by simpa [AV.ok, but_u0, GV.ok, Value.oneCell', ptr] using hS) ?_
  have hof : ∀ d ∈ p.ds, d.undo.of.oneCell' = true := fun d hd => by rcases hg.fl.hist.isof d hd with e | e <;> rw [e] <;> rfl
  have hn := hops.1
  simp (maxSteps := 2000000) only [c_oplog_Log_Add, ptr, vc_seq, vc_rg, thenQ_n, kKeep_eq, segs_nil, segs_n, ops_nil, ops_cons, vcOp, ev, look, put_mk, keep_mk, keepL, Value.oneCell', cond_true, Nat.reduceEqDiff, ↓reduceIte, reduceCtorEq, Nat.zero_add, initF, initP, List.length_map, ptr]
  refine call_ism _ [.s (.bool false)] rfl rfl (fun w' vs hv _ _ hm => ?_) ?_
  · obtain ⟨vs, rfl, _, hv⟩ := argsV_g hv
    obtain rfl := argsV_nil hv
    exact logNone_spec hm hL
  simp (maxSteps := 2000000) only [retS, vc_skip, vc_seq, vc_rg, vc_ite, thenQ_n, kKeep_eq, segs_nil, segs_n, ops_nil, ops_cons, vcOp, ev, look, put_mk, keep_mk, keepL, Nat.reduceEqDiff, ↓reduceIte, reduceCtorEq, ↓br_ft]
  refine call_ism _ [.s (.int .i64 (lookE p.ds p.fr [] ops))] rfl rfl (fun w' vs hv _ _ hm => ?_) ?_
  · obtain ⟨vs, rfl, _, hv⟩ := argsV_g hv
    obtain ⟨v', vs, rfl, hs', hv⟩ := argsV_row (z := 8) (xs := ops.map gOp) rfl (by simp) hv
    obtain rfl := argsV_nil hv
    exact look_spec w' m hm b L Lb p hL hof hg.ris (by omega) v' ops hops hs'
  by_cases hlk : lookE p.ds p.fr [] ops = 0
  case neg =>
    simp (maxSteps := 2000000) only [retS, bne_iff_ne.2 hlk, vc_ret, vc_seq, vc_rg, vc_ite, thenQ_n, thenQ_r, kKeep_eq, finQ_r, segs_nil, segs_n, ops_nil, ops_cons, vcOp, ev, look, put_mk, keep_mk, keepL, binV, binC, Value.oneCell', cond_true, Nat.reduceEqDiff, ↓reduceIte, reduceCtorEq, Bool.true_and, true_and, ↓br_tt]
    exact fin_m m rfl (fun _ _ h => h) ⟨fun _ => ⟨rfl, hL⟩, fun h => absurd h hlk⟩
  simp (maxSteps := 2000000) only [retS, hlk, Int.reduceBNe, vc_skip, vc_seq, vc_rg, vc_ite, thenQ_n, kKeep_eq, segs_nil, segs_n, ops_nil, ops_cons, vcOp, ev, look, put_mk, keep_mk, keepL, binV, binC, Value.oneCell', cond_true, Nat.reduceEqDiff, ↓reduceIte, reduceCtorEq, Bool.true_and, true_and, ↓br_ft]
  refine call_ownm rfl rfl (Q := fun rs m' => ∃ v', rs = [.s v'] ∧ SlO m' v' 26 8 (ops.map gOp)) (fun w' vs hv hw _ _ => ?_) fun rs mN _ hq1 hdN => ?_
  · obtain ⟨v1, vs, rfl, k1, hv⟩ := argsV_row (z := 8) (xs := ops.map gOp) rfl (by simp) hv
    obtain rfl := argsV_nil hv
    exact cloneO_spec w' v1 ops (by omega) w'.ph (fun _ _ h => h) k1
  obtain ⟨vn, rfl, hN⟩ := hq1
  simp (maxSteps := 2000000) only [retS, vc_seq, vc_rg, thenQ_n, kKeep_eq, segs_nil, segs_n, ops_nil, ops_cons, vcOp, ev, look, put_mk, keep_mk, keepL, ↓reduceIte, reduceCtorEq]
  have hlook := looked hlk
  refine call_with mN m (dOk_spec rfl) rfl rfl hdN (Q := fun rs m' => rs = [] ∧ ∃ cs' : List Op, cs'.Perm ops ∧ Rising (cs'.map Op.k) ∧ SlO m' vn 26 8 (cs'.map gOp)) (fun w' vs hv _ _ => ?_) fun rs mN' _ hq1 hdN' => ?_
  · obtain ⟨vs, rfl, _, hv⟩ := argsV_g hv
    obtain ⟨vs, rfl, _, hv⟩ := argsV_g hv
    obtain rfl := argsV_nil hv
    exact sortO_spec w' vn ops mN hN (by omega) hlook.nod
  obtain ⟨rfl, news, hpn, hrn, hN'⟩ := hq1
  have hnl := hpn.length_eq
  simp (maxSteps := 2000000) only [retS, vc_seq, vc_rg, thenQ_n, kKeep_eq, segs_nil, segs_n, ops_nil, ops_cons, vcOp, look, put_mk, keep_mk, keepL, Nat.reduceEqDiff, ↓reduceIte, reduceCtorEq]
  refine gh_seq (gh_frz rfl hdN' ?_)
  refine gh_rk 7 7 (gOp zOp) rfl rfl hN'.toR (KN.mem (by simp)) ?_
  obtain ⟨ov, mT0, mB0, hSo, _, _, hs⟩ := hL.look
  have hS3 : ∀ {ph : List PH}, Seen ⟨Tryz.prog, 153, w, m⟩ ph m b 3 (.s ov) := fun {ph} => (hs (C := ⟨Tryz.prog, 153, w, m⟩) (ph := ph) (m' := m) (KN.mem (by simp))).2.2.2.1
  simp (maxSteps := 2000000) only [ops_cons, vcOp, ev, look, put_mk, ↓reduceIte, reduceCtorEq, Nat.zero_add, List.length_map]
  refine ld_of _ hS3 rfl ?_
  obtain ⟨ao, co, hov⟩ := slr_len hSo
  have hov2 : ov = .slice ao p.ds.length co := by rw [hov, List.length_map]
  have tail : ∀ σ : SS, Ge σ ⟨[(0, .g (.s (.pointer (some ⟨b, 0, none⟩)))), (7, .row 7 0 (news.length)), (8, .g (.s (.int .i64 (frontA p.ds news))))], [(7, .ro 8 (gOp zOp) (news.map gOp))], [mN'], m⟩ → vc ⟨Tryz.prog, 153, w, m⟩ c_oplog_Log_Add_R11 (finQ ⟨Tryz.prog, 153, w, m⟩ [.tmp 4, .tmp 5] (AddQ b L Lb p kb q ops)) σ := by
    intro σ hσ
    unfold c_oplog_Log_Add_R11
    rw [vc_seq]
    refine vc_gh_of_ge hσ ?_
    simp (maxSteps := 2000000) only [vc_rg, segs_n, ops_cons, vcOp, ev, look, put_mk, ↓reduceIte, Nat.zero_add]
    refine ld_of _ hS3 rfl ?_
    simp (maxSteps := 2000000) only [ops_cons, vcOp, ev, look, put_mk, Nat.reduceEqDiff, ↓reduceIte, reduceCtorEq]
    refine gh_id ?_
    have hfl := frontA_le p.ds news
    refine ops_sl (l := frontA p.ds news) (h := p.ds.length) rfl hSo rfl (fun d hd => by rw [hd, List.length_map]; rfl) hfl (by simp) fun v54 hv1 hv2 => ?_
    rw [List.take_of_length_le (by simp)] at hv2
    simp (maxSteps := 2000000) only [ops_cons, vcOp, put_mk]
    refine call_ownm rfl rfl (Q := fun rs m' => ∃ v', rs = [.s v'] ∧ SlO m' v' 97 22 ((p.ds.drop (frontA p.ds news)).map gDone)) (fun w' vs hv _ _ hm => ?_) fun rs mD _ hq1 hdD => ?_
    · obtain ⟨vs, rfl, _, hv⟩ := argsV_g hv
      obtain rfl := argsV_nil hv
      rw [← List.map_drop] at hv2
      exact cloneD_spec w' v54 _ (by simp; omega) m hm hv2
    obtain ⟨vo, rfl, hD⟩ := hq1
    have hD1 := hD.one
    simp (maxSteps := 2000000) only [retS, vc_seq, vc_rg, thenQ_n, kKeep_eq, segs_nil, segs_n, ops_nil, ops_cons, vcOp, ev, look, put_mk, keep_mk, keepL, Nat.reduceEqDiff, ↓reduceIte, reduceCtorEq]
    refine gh_own 9 9 (gDone zDone) rfl rfl hD rfl hdD ?_
    simp (maxSteps := 2000000) only [List.length_map, vc_block, thenQ_n, kKeep_eq, segs_nil, ops_nil, ops_cons, vcOp, ev, look, put_mk, keep_mk, keepL, binV, binC, Value.oneCell', cond_true, Nat.reduceEqDiff, ↓reduceIte, reduceCtorEq, Bool.true_and, true_and, List.length_map]
    generalize hf : frontA p.ds news = f at *
    have hol : (p.ds.drop f).length = p.ds.length - f := List.length_drop
    refine vc_loop (ι := Nat × Lay × PT × PH) (fun x => ⟨[(0, .g (.s (.pointer (some ⟨b, 0, none⟩)))), (7, .row 7 0 (news.length)), (8, .g (.s (.int .i64 (f)))), (9, .row 9 0 ((p.ds.drop f).length)), (10, .g (.s (.int .i64 ((x.1 : Int) - 1))))], [(9, .row 97 22 (gDone zDone) ((p.ds.drop f).map gDone)), (7, .ro 8 (gOp zOp) (news.map gOp))], [mN'], x.2.2.2⟩)
      (fun x => x.1 ≤ (p.ds.drop f).length ∧ x.2.1 .t = L .t ∧ x.2.1 .mk = L .mk ∧ LogM x.2.2.2 b x.2.1 Lb { p with T := x.2.2.1 } ∧ Fl (ptr (L .mk)) p.B p.i0 q x.2.2.1 (p.ds.take (f + x.1))) (fun x => x.1) ((p.ds.drop f).length, L, p.T, m)
      ⟨Nat.le_refl _, rfl, rfl, hL, by simp only; rw [hol, show f + (p.ds.length - f) = p.ds.length by omega, List.take_length]; exact hg.fl⟩ (ge_of ?_ ?_ rfl rfl rfl) ?_
    · simp only [frIn, look, Nat.reduceEqDiff, ↓reduceIte, reduceCtorEq, Bool.and_true, Bool.true_and, true_and, and_true]
      rw [wrap64 (by omega) (by omega)]
      try simp
    · simp [pvIn, look]
    rintro ⟨r, L1, T1, m1⟩ ⟨hr, hL1, hL2, hM, hF⟩
    simp only at hr hL1 hL2 hM hF
    generalize hQ : loopQ _ _ _ _ _ = Q
    simp (maxSteps := 2000000) only [c_oplog_Log_Add_L0, vc_skip, vc_exit, vc_seq, vc_block, vc_rg, vc_rgq, vc_ite, thenQ_n, thenQ_e, kKeep_eq, segs_nil, segs_n, ops_nil, ops_cons, qsegs_n, qops_cons, vcqOp, vcOp, isRd, ev, look, put_mk, keep_mk, keepL, binV, binC, Value.oneCell', cond_true, Nat.reduceEqDiff, ↓reduceIte, reduceCtorEq, Nat.add_zero, Bool.true_and, true_and, decide_eq_true_eq, decide_eq_false_iff_not, br_t]
    refine ⟨fun hge0 => ?_, fun hlt0 => ?_⟩
    · obtain ⟨ov1, _, _, _, _, _, hs1⟩ := hM.look
      have hS0 := (hs1 (C := ⟨Tryz.prog, 153, w, m⟩) (ph := [mN']) (m' := m1) (KN.mem (by simp))).1
      refine ld_of _ hS0 rfl ?_
      rw [hL1]
      have hn1 : ((r : Int) - 1).toNat = r - 1 := by omega
      simp (maxSteps := 2000000) only [ptr, segs_n, ops_cons, qsegs_nil, qops_nil, qops_cons, vcqOp, vcOp, isRd, ev, look, put_mk, rowE, rowD, Nat.reduceEqDiff, ↓reduceIte, reduceCtorEq, List.nil_append, Nat.zero_add, Bool.true_and, true_and, getT_nil, gUndo_fits, ptr, gDone_fld2, gDone_get2, getD_gDone]
      refine ⟨⟨by omega, by omega⟩, ?_⟩
      rw [hn1]
      have hlt : f + (r - 1) < p.ds.length := by omega
      obtain ⟨d, hd⟩ : ∃ d, (p.ds.drop f).getD (r - 1) zDone = d := ⟨_, rfl⟩
      have hd2 : p.ds.getD (f + (r - 1)) zDone = d := by rw [← hd, List.getD_eq_getElem?_getD, List.getD_eq_getElem?_getD, List.getElem?_drop]
      have htk : p.ds.take (f + r) = p.ds.take (f + (r - 1)) ++ [d] := by rw [← hd2, ← take_at hlt, show f + (r - 1) + 1 = f + r by omega]
      rw [htk] at hF
      rw [hd]
      obtain ⟨mT, mr, hm1, hdm, hT, hback⟩ := hM.tree
      have hids := hF.ids
      have hB := hF.back hg.bok fun x hx => hg.ops x (List.mem_of_mem_take hx)
      obtain ⟨T2, hT2, hF2⟩ : ∃ T2, (∀ w', Spec Tryz.prog f_tree_Tree_Back [ptr (L1 .t), (gUndo d.undo).val] mT w' fun rs m' => rs = [.s (.int .i64 0)] ∧ TM m' L1 T2) ∧ Fl (ptr (L .mk)) p.B p.i0 q T2 (p.ds.take (f + (r - 1))) := by
        rcases hB with ⟨h1, h2⟩ | ⟨h1, h2, h3, h4⟩
        · refine ⟨T1, fun w' => ?_, h2⟩
          rw [h1]
          exact Back_zero w' mT L1 T1 hT
        · exact ⟨T1.undone d.undo, fun w' => (Back_spec w' mT L1 T1 d.undo (by rw [h1, hL2]; rfl) hT (by omega) (fun _ => h3)).mono fun rs m' h => h.1 h2, h4⟩
      refine call_with mT mr (dOk_spec rfl) rfl hm1 hdm (Q := fun rs m' => rs = [.s (.int .i64 0)] ∧ TM m' L1 T2) (fun w' vs hv _ _ => ?_) fun rs mT' _ hq1 hdT => ?_
      · obtain ⟨vs, rfl, _, hv⟩ := argsV_g hv
        obtain ⟨vs, rfl, _, hv⟩ := argsV_g hv
        obtain rfl := argsV_nil hv
        have := hT2 w'
        rw [hL1] at this
        exact this
      obtain ⟨rfl, hTn⟩ := hq1
      simp (maxSteps := 2000000) only [retS, vc_rg, thenQ_n, blockQ_n, kKeep_eq, segs_nil, segs_n, ops_nil, ops_cons, vcOp, ev, look, put_mk, keep_mk, keepL, binV, binC, Value.oneCell', cond_true, Nat.reduceEqDiff, ↓reduceIte, reduceCtorEq, Bool.true_and, true_and]
      subst hQ; simp only [loopQ_n]; refine ⟨(r - 1, L1, T2, uni mT' mr), ?_, ?_, ge_of ?_ ?_ rfl rfl rfl⟩
      · exact ⟨by simp only; omega, hL1, hL2, hback rfl hTn hdT, hF2⟩
      · simp only; omega
      · simp only [frIn, look, Nat.reduceEqDiff, ↓reduceIte, reduceCtorEq, Bool.and_true, Bool.true_and, true_and, and_true]
        rw [wrap64 (by omega) (by omega), show (((r - 1 : Nat) : Int) - 1) = (r : Int) - 1 - 1 by omega]
        try simp
      · simp [pvIn, look]
    · subst hQ
      obtain rfl : r = 0 := by omega
      simp (maxSteps := 2000000) only [vc_seq, vc_rg, thenQ_n, blockQ_e, loopQ_e, segs_n, ops_cons, vcOp, ev, look, put_mk, ↓reduceIte, reduceCtorEq, Nat.zero_add, ptr]
      obtain ⟨ov1, e1, mo, mr, hm1, hdm, hO, hb1, hs1, hmk⟩ := hM.list
      refine ld_of _ (hs1 (KN.mem (by simp))) rfl ?_
      simp (maxSteps := 2000000) only [ops_cons, vcOp, ev, look, put_mk, Nat.reduceEqDiff, ↓reduceIte, reduceCtorEq]
      refine gh_id ?_
      refine ops_take (h := f) rfl hO (fun d => rfl) (by simp; omega) fun v81 hv1 hv2 => ?_
      simp (maxSteps := 2000000) only [ops_cons, vcOp, ev, look, put_mk, Nat.reduceEqDiff, ↓reduceIte, reduceCtorEq, Nat.zero_add]
      have hbm := uni_r hdm hb1
      rw [← hm1] at hbm
      refine st_of rfl _ e1 ⟨hbm.1, by simp⟩ ?_
      simp (maxSteps := 2000000) only [ops_cons, vcOp, ev, look, put_mk, put_mk0, Nat.reduceEqDiff, ↓reduceIte, Nat.zero_add, ptr]
      refine st_of rfl _ e1 ⟨upd_self _ _ _, by simp [writeAt, GV.flat]⟩ ?_
      simp (maxSteps := 2000000) only [vc_seq, vc_rg, thenQ_n, kKeep_eq, segs_nil, segs_n, ops_nil, ops_cons, vcOp, look, put_mk0, keep_mk, keepL, Nat.reduceEqDiff, ↓reduceIte, reduceCtorEq]
      intro bf of hof1 hdf
      simp (maxSteps := 2000000) only [vc_seq, vc_block, vc_rg, thenQ_n, kKeep_eq, segs_nil, segs_n, ops_nil, ops_cons, vcOp, ev, look, put_mk, keep_mk, keepL, Value.oneCell', cond_true, Nat.reduceEqDiff, ↓reduceIte, reduceCtorEq]
      rw [upd_upd2, hm1, uni_upd hbm.2] at hdf ⊢
      have hv3 : SlO mo v81 97 22 ((p.ds.take f).map gDone) := by rw [List.map_take]; exact hv2
      have hM2 := hmk (ds' := p.ds.take f) (fr' := p.fr) (red' := ((p.ds.drop f).length : Int)) hv3 hdm
      generalize hm2 : uni mo (mr.upd b _) = m2 at hdf ⊢
      have em2 : uni mo (mr.upd b (logC L1 Lb p.fr v81 ((p.ds.drop f).length : Int) e1)) = m2 := by rw [← hm2]; rfl
      simp only [em2] at hM2
      have hdf : dis (one bf of) m2 := hdf
      refine vc_loop (ι := Nat × Obj) (fun x => ⟨[(0, .g (.s (.pointer (some ⟨b, 0, none⟩)))), (9, .row 9 0 ((p.ds.drop f).length + x.1)), (11, .g (.s (.map (some bf)))), (89, .row 7 0 (news.length)), (90, .g (.s (.int .i64 (news.length)))), (91, .g (.s (.int .i64 (x.1))))], [(9, .row 97 22 (gDone zDone) ((p.ds.drop f ++ (news.take x.1).map fresh).map gDone)), (7, .ro 8 (gOp zOp) (news.map gOp))], [mN'], uni (one bf x.2) m2⟩)
        (fun x => x.1 ≤ news.length ∧ Map2 x.2 (cnt ((news.take x.1).map Op.k))) (fun x => news.length - x.1) (0, of) ⟨Nat.zero_le _, mapI_2 (hof1 none)⟩ (ge_of ?_ ?_ rfl rfl rfl) ?_
      · simp [frIn, look]
      · simp [pvIn, look]
      have hdf2 : ∀ o, dis (one bf o) m2 := fun o k => by
        rcases hdf k with h | h
        · simp only [one] at h ⊢
          split at h
          · cases h
          · rename_i hk; left; rw [if_neg hk]
        · exact .inr h
      rintro ⟨j, o⟩ ⟨hj, hmo⟩
      simp only at hj hmo
      generalize hQ : loopQ _ _ _ _ _ = Q
      simp (maxSteps := 2000000) only [c_oplog_Log_Add_L1, vc_skip, vc_exit, vc_seq, vc_block, vc_rg, vc_rga, vc_ite, thenQ_n, thenQ_e, kKeep_eq, segs_nil, segs_n, ops_nil, ops_cons, ot_op, ot_or, vcOp, ev, look, updL, put_mk, put_mk0, keep_mk, keepL, rowE, rowD, binV, binC, Nat.reduceEqDiff, ↓reduceIte, reduceCtorEq, List.nil_append, Nat.zero_add, Bool.and_true, Bool.true_and, true_and, and_true, Int.toNat_natCast, decide_eq_true_eq, decide_eq_false_iff_not, br_t, getT_nil, setT_nil, gStamp_fits, gStamp_zero, gOp_sz, gOp_fits, gOp_same, gOp_fld0, gOp_get0, gOp_zero, getD_gOp]
      refine ⟨fun hlt => ⟨⟨by omega, by omega⟩, ?_⟩, fun hge => ?_⟩
      · have hjl : j < news.length := by omega
        obtain ⟨op, hop⟩ : ∃ op, news.getD j zOp = op := ⟨_, rfl⟩
        have htk : news.take (j + 1) = news.take j ++ [op] := by rw [take_at hjl zOp, hop]
        rw [hop]
        have hks : op.k ∉ (news.take j).map Op.k := by
          have hnd : ((news.take (j + 1)).map Op.k).Nodup := by
            have : (news.map Op.k).Nodup := (hpn.map _).nodup_iff.2 hlook.nod
            exact this.sublist ((List.take_sublist _ _).map _)
          rw [htk, List.map_append, List.nodup_append] at hnd
          exact fun hm => hnd.2.2 _ hm _ (by simp) rfl
        generalize hkk : (news.take j).map Op.k = ks at hmo hks
        have tail2 : ∀ o', Map2 o' (mput2 (cnt ks) op.k (.int .i64 (cntV ks op.k))) → ∀ σ : SS, Ge σ ⟨[(0, .g (.s (.pointer (some ⟨b, 0, none⟩)))), (9, .row 9 0 ((p.ds.drop f).length + j)), (11, .g (.s (.map (some bf)))), (13, .ref 13 []), (89, .row 7 0 (news.length)), (90, .g (.s (.int .i64 (news.length)))), (91, .g (.s (.int .i64 (j))))], [(9, .row 97 22 (gDone zDone) ((p.ds.drop f ++ (news.take j).map fresh).map gDone)), (7, .ro 8 (gOp zOp) (news.map gOp)), (13, .box (gOp op))], [mN'], uni (one bf o') m2⟩ →
            vc ⟨Tryz.prog, 153, w, m⟩ c_oplog_Log_Add_R22 (blockQ 3 (thenQ (vc ⟨Tryz.prog, 153, w, m⟩ (.rg [⟨none, [(some 107, .bin .add (.t 91) (.c (.int .i64 1))), (some 91, .mv (.t 107))]⟩] [0, 9, 11, 89, 90, 91]) Q) Q)) σ := by
          intro o' ho' σ hσ
          rw [mput_fresh hks] at ho'
          unfold c_oplog_Log_Add_R22
          refine vc_gh_of_ge hσ ?_
          simp (maxSteps := 2000000) only [GV.bldC, GV.bldT, vc_rg, thenQ_n, blockQ_n, kKeep_eq, segs_nil, segs_n, ops_nil, ops_cons, vcOp, ev, evL, gvL, look, updL, put_mk, keep_mk, keepL, rowE, binV, binC, Value.oneCell', cond_true, cond_false, Nat.reduceEqDiff, Nat.reduceBEq, ↓reduceIte, reduceCtorEq, Nat.zero_add, Bool.and_true, Bool.true_and, BEq.rfl, true_and, and_true, List.map_cons, List.map_nil, Option.map_some, szAll, List.length_cons, List.length_nil, kill, SV.mentions, ne_eq, not_false_eq_true, List.drop_zero, List.take_succ_cons, List.take_zero, GV.bldT, GV.bldC, getT_nil, List.length_map, gStamp_zero, gOp_fits, gOp_same, gOp_zero, gPlace_zero, gUndo_zero, gDone_sz, gDone_get0, gDone_set0, gDone_zero]
          refine ⟨rfl, by simp; omega, by omega, ?_⟩
          subst hQ; simp only [loopQ_n]; refine ⟨(j + 1, o'), ?_, ?_, ge_of ?_ ?_ rfl rfl rfl⟩
          · refine ⟨by simp only; omega, ?_⟩
            simp only
            rw [htk, List.map_append, hkk]
            exact ho'
          · simp only; omega
          · simp only [frIn, look, Nat.reduceEqDiff, ↓reduceIte, reduceCtorEq, Bool.and_true, Bool.true_and, true_and, and_true]
            rw [wrap_n (by omega)]
            try simp
            try omega
          · simp only [pvIn, look, Nat.reduceEqDiff, ↓reduceIte, Bool.and_true, and_true]
            rw [htk]
            simp [fresh, zDone]
        have hgt := cnt_get ks op.k
        have hw := cnt_wrap ks op.k
        have hbfs : ∀ o, uni (one bf o) m2 bf = some o := fun o => sub_uni_l _ _ _ _ (one_self _ _)
        refine ⟨⟨op.k, o, _, rfl, .inl (hbfs o), hmo, ?_⟩, ?_⟩
        · simp (maxSteps := 2000000) only [lkS2, hgt, segs_nil, segs_n, ops_nil, ops_cons, ot_op, vcOp, ev, look, put_mk, binV, binC, Value.oneCell', cond_true, cond_false, Nat.reduceEqDiff, ↓reduceIte, Bool.true_and, true_and]
          refine ⟨op.k, o, _, rfl, hbfs o, hmo, fun o1 β ho1 hb1 => ?_⟩
          simp (maxSteps := 2000000) only [uni_one_upd, List.getElem?_cons_succ, List.getElem?_cons_zero, segs_nil, segs_n, ops_nil, ops_cons, ot_op, vcOp, ev, look, put_mk, Nat.reduceEqDiff, ↓reduceIte]
          refine ⟨op.k, o1, _, β, rfl, hbfs o1, ho1, hb1, fun o2 ho2 => ?_⟩
          rw [mput2_ens, hw] at ho2
          simp (maxSteps := 2000000) only [uni_one_upd, thenQ_n, kKeep_eq, segs_nil, ops_nil, ot_done, look, put_mk0, keep_mk, keepL, Nat.reduceEqDiff, ↓reduceIte, reduceCtorEq]
          exact tail2 o2 ho2 _ (ge_of (by simp [frIn, look]) (by simp [pvIn, look]) rfl rfl rfl)
        · refine ⟨op.k, o, _, rfl, hbfs o, hmo, fun o1 β ho1 hb1 => ?_⟩
          simp (maxSteps := 2000000) only [uni_one_upd, List.getElem?_cons_succ, List.getElem?_cons_zero, segs_nil, segs_n, ops_nil, ops_cons, ot_op, vcOp, ev, look, put_mk, Nat.reduceEqDiff, ↓reduceIte]
          refine ⟨op.k, o1, _, rfl, .inl (hbfs o1), ho1, ?_⟩
          simp (maxSteps := 2000000) only [lkS2, mget2_ens, hgt, segs_nil, segs_n, ops_nil, ops_cons, ot_op, vcOp, ev, look, put_mk, binV, binC, Value.oneCell', cond_true, cond_false, Nat.reduceEqDiff, ↓reduceIte, Bool.true_and, true_and]
          refine ⟨op.k, o1, _, β, rfl, hbfs o1, ho1, hb1, fun o2 ho2 => ?_⟩
          rw [mput2_ens, hw] at ho2
          simp (maxSteps := 2000000) only [uni_one_upd, thenQ_n, kKeep_eq, segs_nil, ops_nil, ot_done, look, put_mk0, keep_mk, keepL, Nat.reduceEqDiff, ↓reduceIte, reduceCtorEq]
          exact tail2 o2 ho2 _ (ge_of (by simp [frIn, look]) (by simp [pvIn, look]) rfl rfl rfl)
      · subst hQ
        obtain rfl : j = news.length := by omega
        rw [List.take_length] at hmo
        simp (maxSteps := 2000000) only [List.take_length, vc_seq, vc_rg, thenQ_n, blockQ_e, loopQ_e, segs_n, ops_cons, vcOp, ↓reduceIte]
        refine gh_pub 9 9 _ rfl rfl (by simp) fun v9 uD ho9 hs9 hd9 => ?_
        simp (maxSteps := 2000000) only [ops_cons, vcOp, ev, look, put_mk, cond_true, cond_false, Nat.reduceBEq, ↓reduceIte, BEq.rfl, kill, SV.mentions]
        have hd9 : dis uD (uni (one bf o) m2) := hd9
        refine call_with uD (uni (one bf o) m2) (dOk_spec rfl) rfl rfl hd9 (Q := fun rs m' => rs = [] ∧ ∃ cs : List Done, cs.Perm (p.ds.drop f ++ news.map fresh) ∧ Rising (cs.map Done.k) ∧ SlO m' v9 97 22 (cs.map gDone)) (fun w' vs hv _ _ => ?_) fun rs uD' _ hq1 hdD' => ?_
        · obtain ⟨vs, rfl, _, hv⟩ := argsV_g hv
          obtain ⟨vs, rfl, _, hv⟩ := argsV_g hv
          obtain rfl := argsV_nil hv
          refine sortD_spec w' v9 _ (fun d hd => ?_) uD hs9 (by simp; omega) (placed_nodup hg.ris hlook hpn f)
          rcases List.mem_append.1 hd with hd | hd
          · exact hof d (List.mem_of_mem_drop hd)
          · obtain ⟨op, _, rfl⟩ := List.mem_map.1 hd
            rfl
        obtain ⟨rfl, cs, hpc, hrc, hcs⟩ := hq1
        simp (maxSteps := 2000000) only [retS, vc_seq, vc_rg, thenQ_n, kKeep_eq, segs_nil, segs_n, ops_nil, ops_cons, vcOp, ev, look, put_mk, keep_mk, keepL, Value.oneCell', cond_true, Nat.reduceEqDiff, ↓reduceIte, reduceCtorEq]
        refine gh_seq (gh_frz rfl hdD' ?_)
        refine gh_seq (gh_frz rfl (hdf2 o) ?_)
        refine gh_rk 9 9 (gDone zDone) rfl rfl hcs.toR (KN.mem (by simp)) ?_
        simp (maxSteps := 2000000) only [List.length_map, vc_block, thenQ_n, kKeep_eq, segs_nil, ops_nil, ops_cons, vcOp, ev, look, put_mk, keep_mk, keepL, Value.oneCell', cond_true, Nat.reduceEqDiff, ↓reduceIte, reduceCtorEq, List.length_map]
        have hcl : cs.length = (p.ds.length - f) + news.length := by rw [hpc.length_eq, List.length_append, hol, List.length_map]
        have hco : ∀ d ∈ cs, OpOk d.op := fun d hd => by
          rcases List.mem_append.1 (hpc.mem_iff.1 hd) with hd | hd
          · exact hg.ops d (List.mem_of_mem_drop hd)
          · obtain ⟨op, hop, rfl⟩ := List.mem_map.1 hd
            exact (hops.2 op (hpn.mem_iff.1 hop)).2
        have hqd : kb + p.ds.length ≤ q := hg.many
        refine vc_loop (ι := Nat × Lay × PT × PH × List Done) (fun x => ⟨[(0, .g (.s (.pointer (some ⟨b, 0, none⟩)))), (11, .g (.s (.map (some bf)))), (14, .g (.s (.int .i64 ((x.2.2.2.2.filter fun d => d.taken && decide (d.k ∈ ops.map Op.k)).length)))), (110, .row 9 0 (cs.length)), (111, .g (.s (.int .i64 (cs.length)))), (112, .g (.s (.int .i64 (x.1))))], [(9, .ro 22 (gDone zDone) (cs.map gDone))], [one bf o, uD', mN'], x.2.2.2.1⟩)
          (fun x => x.1 ≤ cs.length ∧ x.2.1 .t = L .t ∧ x.2.1 .mk = L .mk ∧ LogM x.2.2.2.1 b x.2.1 Lb { p with T := x.2.2.1, ds := p.ds.take f ++ x.2.2.2.2, red := ((p.ds.drop f).length : Int) } ∧ x.2.2.2.2.map (·.op) = (cs.take x.1).map (·.op) ∧ Fl (ptr (L .mk)) p.B p.i0 (q + x.1) x.2.2.1 (p.ds.take f ++ x.2.2.2.2)) (fun x => cs.length - x.1) (0, L1, T1, m2, [])
          ⟨Nat.zero_le _, hL1, hL2, by simpa using hM2, rfl, by simpa using hF⟩ (ge_of ?_ ?_ rfl rfl rfl) ?_
        · simp [frIn, look]
        · simp [pvIn, look]
        rintro ⟨i, L3, T3, m3, rs⟩ ⟨hi, hL3, hL4, hM3, hrs, hF3⟩
        simp only at hi hL3 hL4 hM3 hrs hF3
        have hrl : rs.length = i := by
          have := congrArg List.length hrs
          simpa [Nat.min_eq_left hi] using this
        generalize hQ : loopQ _ _ _ _ _ = Q
        simp (maxSteps := 2000000) only [c_oplog_Log_Add_L2, vc_skip, vc_exit, vc_seq, vc_block, vc_rg, vc_rga, vc_ite, thenQ_n, thenQ_e, kKeep_eq, segs_nil, segs_n, ops_nil, ops_cons, ot_op, ot_or, vcOp, ev, look, updL, put_mk, put_mk0, keep_mk, keepL, rowE, rowD, binV, binC, Nat.reduceEqDiff, ↓reduceIte, reduceCtorEq, List.nil_append, Nat.zero_add, Nat.add_zero, Bool.and_true, Bool.true_and, true_and, and_true, Int.toNat_natCast, decide_eq_true_eq, decide_eq_false_iff_not, br_t, getT_nil, setT_nil, gStamp_zero, gOp_fits, gOp_zero, gPlace_zero, gUndo_zero, gDone_sz, gDone_fits, gDone_same, gDone_fld0, gDone_get0, gDone_zero, getD_gDone]
        refine ⟨fun hlt => ⟨⟨by omega, by omega⟩, ?_⟩, fun hge => ?_⟩
        · have hil : i < cs.length := by omega
          obtain ⟨d, hd⟩ : ∃ d, cs.getD i zDone = d := ⟨_, rfl⟩
          have hdm2 : d ∈ cs := hd ▸ getD_in hil zDone
          rw [hd]
          obtain ⟨ov3, _, _, _, _, _, hs3⟩ := hM3.look
          have hS0 := (hs3 (C := ⟨Tryz.prog, 153, w, m⟩) (ph := [one bf o, uD', mN']) (m' := m3) (KN.mem (by simp))).1
          rw [hL3] at hS0
          obtain ⟨mT, mr3, hm3, hdm3, hT3, hback⟩ := hM3.tree
          have hol3 : ∀ x ∈ p.ds.take f ++ rs, OpOk x.op := fun x hx => by
            rcases List.mem_append.1 hx with hx | hx
            · exact hg.ops x (List.mem_of_mem_take hx)
            · have : x.op ∈ (cs.take i).map (·.op) := by rw [← hrs]; exact List.mem_map.2 ⟨x, hx, rfl⟩
              obtain ⟨y, hy, e⟩ := List.mem_map.1 this
              rw [← e]
              exact hco y (List.mem_of_mem_take hy)
          have htok := hF3.tok hg.bok hol3 (by simp; omega)
          obtain ⟨d', T4, hd4, hdo, hF4⟩ : ∃ (d' : Done) (T4 : PT), d'.op = d.op ∧ (∀ w', Spec Tryz.prog f_tree_Tree_Do [ptr (L3 .t), (gOp d.op).val] mT w' fun rs' m' => rs' = [gUndo d'.undo, .s (.bool d'.taken)] ∧ ∃ L4, L4 .t = L3 .t ∧ L4 .mk = L3 .mk ∧ TM m' L4 T4) ∧ Fl (ptr (L .mk)) p.B p.i0 (q + (i + 1)) T4 (p.ds.take f ++ (rs ++ [d'])) := by
            cases hmay : mayA T3 d.op with
            | false => exact ⟨⟨d.op, false, zUndo⟩, T3, rfl, fun w' => (Do_spec w' mT L3 T3 d.op (hco d hdm2).2 (ok_fits htok (by omega)) hT3).mono fun rs' m' h => ⟨(h.1 hmay).1, L3, rfl, rfl, (h.1 hmay).2⟩, by rw [← List.append_assoc]; exact hF3.no hg.bok hol3 hmay⟩
            | true => exact ⟨⟨d.op, true, T3.undo (ptr (L .mk)) d.op⟩, T3.does d.op, rfl, fun w' => (Do_spec w' mT L3 T3 d.op (hco d hdm2).2 (ok_fits htok (by omega)) hT3).mono fun rs' m' h => by
                obtain ⟨L4, h1, h2, h3, h4⟩ := h.2 hmay
                exact ⟨by rw [h3, hL4], L4, h1, h2, h4⟩, by rw [← List.append_assoc]; exact hF3.yes hg.bok hol3 (hco d hdm2) hmay⟩
          have hdk : d'.k = d.k := by show d'.op.k = d.op.k; rw [hd4]
          have hmemk : d.k ∈ news.map Op.k ↔ d'.k ∈ ops.map Op.k := by rw [hdk]; exact (hpn.map _).mem_iff
          have tail3 : ∀ (L4 : Lay) (m4 : PH), L4 .t = L .t → L4 .mk = L .mk → LogM m4 b L4 Lb { p with T := T4, ds := p.ds.take f ++ rs, red := ((p.ds.drop f).length : Int) } →
              ∀ σ : SS, Ge σ ⟨[(0, .g (.s (.pointer (some ⟨b, 0, none⟩)))), (11, .g (.s (.map (some bf)))), (14, .g (.s (.int .i64 ((rs.filter fun d => d.taken && decide (d.k ∈ ops.map Op.k)).length)))), (16, .ref 16 []), (110, .row 9 0 (cs.length)), (111, .g (.s (.int .i64 (cs.length)))), (112, .g (.s (.int .i64 (i))))], [(9, .ro 22 (gDone zDone) (cs.map gDone)), (16, .box (gDone d'))], [one bf o, uD', mN'], m4⟩ →
              vc ⟨Tryz.prog, 153, w, m⟩ c_oplog_Log_Add_R30 (blockQ 5 (thenQ (vc ⟨Tryz.prog, 153, w, m⟩ (.rg [⟨none, [(some 151, .bin .add (.t 112) (.c (.int .i64 1))), (some 112, .mv (.t 151))]⟩] [0, 11, 14, 110, 111, 112]) Q) Q)) σ := by
            intro L4 m4 hL5 hL6 hM4 σ hσ
            unfold c_oplog_Log_Add_R30
            rw [vc_seq, vc_seq]
            refine vc_gh_of_ge hσ ?_
            have tail4 : ∀ n : Nat, n = ((rs ++ [d']).filter fun d => d.taken && decide (d.k ∈ ops.map Op.k)).length →
                ∀ σ : SS, Ge σ ⟨[(0, .g (.s (.pointer (some ⟨b, 0, none⟩)))), (11, .g (.s (.map (some bf)))), (14, .g (.s (.int .i64 (n)))), (16, .ref 16 []), (110, .row 9 0 (cs.length)), (111, .g (.s (.int .i64 (cs.length)))), (112, .g (.s (.int .i64 (i))))], [(9, .ro 22 (gDone zDone) (cs.map gDone)), (16, .box (gDone d'))], [one bf o, uD', mN'], m4⟩ →
                vc ⟨Tryz.prog, 153, w, m⟩ c_oplog_Log_Add_R32 (blockQ 5 (thenQ (vc ⟨Tryz.prog, 153, w, m⟩ (.rg [⟨none, [(some 151, .bin .add (.t 112) (.c (.int .i64 1))), (some 112, .mv (.t 151))]⟩] [0, 11, 14, 110, 111, 112]) Q) Q)) σ := by
              intro n hn' σ hσ
              unfold c_oplog_Log_Add_R32
              refine vc_gh_of_ge hσ ?_
              obtain ⟨ov4, e4, mo4, mr4, hm4, hdm4, hO4, hb4, hs4, hmk4⟩ := hM4.list
              have hS4 := hs4 (C := ⟨Tryz.prog, 153, w, m⟩) (ph := [one bf o, uD', mN']) (m' := m4) (KN.mem (by simp))
              simp (maxSteps := 2000000) only [vc_rga, segs_nil, segs_n, ops_nil, ops_cons, ot_op, ot_or, vcOp, ev, evL, gvL, look, updL, put_mk, Nat.reduceEqDiff, ↓reduceIte, reduceCtorEq, Nat.zero_add, Bool.and_true, Bool.true_and, true_and, and_true, Option.map_some, szAll, List.length_cons, List.length_nil, getT_nil, gStamp_zero, gOp_zero, gPlace_zero, gUndo_zero, gDone_sz, gDone_fits, gDone_zero]
              refine ⟨ld_of _ hS4 rfl ?_, ld_of _ hS4 rfl ?_, ld_of _ hS4 rfl ?_⟩
              all_goals
                simp (maxSteps := 2000000) only [segs_nil, segs_n, ops_nil, ops_cons, ot_op, vcOp, ev, evL, gvL, look, updL, put_mk, rowE, Nat.reduceEqDiff, ↓reduceIte, reduceCtorEq, Nat.zero_add, Bool.and_true, Bool.true_and, true_and, and_true, Option.map_some, szAll, List.length_cons, List.length_nil, List.drop_zero, List.take_succ_cons, List.take_zero, getT_nil, gDone_sz, gDone_fits]
                refine app_of rfl rfl mo4 mr4 _ hO4 hm4 hdm4 (by simp; omega) fun v5 u5 ho5 hs5 hd5 => ?_
                simp (maxSteps := 2000000) only [segs_nil, segs_n, ops_nil, ops_cons, ot_op, vcOp, ev, look, put_mk, Nat.reduceEqDiff, ↓reduceIte, Nat.zero_add]
                have hb5 := (uni_r hd5 hb4)
                refine st_of rfl _ e4 ⟨hb5.1, by simp⟩ ?_
                simp (maxSteps := 2000000) only [vc_rg, thenQ_n, blockQ_n, kKeep_eq, segs_nil, segs_n, ops_nil, ops_cons, ot_done, vcOp, ev, look, put_mk, put_mk0, keep_mk, keepL, binV, binC, Value.oneCell', cond_true, Nat.reduceEqDiff, ↓reduceIte, reduceCtorEq, Bool.true_and, true_and, ptr]
                have hv5 : SlO u5 v5 97 22 ((p.ds.take f ++ (rs ++ [d'])).map gDone) := by
                  rw [← List.append_assoc, List.map_append]
                  exact hs5
                have hM5 := hmk4 (ds' := p.ds.take f ++ (rs ++ [d'])) (fr' := p.fr) (red' := ((p.ds.drop f).length : Int)) hv5 hd5
                rw [uni_upd hb5.2]
                subst hQ; simp only [loopQ_n]; refine ⟨(i + 1, L4, T4, uni u5 (mr4.upd b (logC L4 Lb p.fr v5 ((p.ds.drop f).length : Int) e4)), rs ++ [d']), ?_, ?_, ge_of ?_ ?_ rfl rfl rfl⟩
                · refine ⟨by simp only; omega, hL5, hL6, hM5, ?_, hF4⟩
                  simp only
                  rw [take_at hil zDone, hd, List.map_append, List.map_append, hrs, List.map_cons, List.map_nil, List.map_cons, List.map_nil, hd4]
                · simp only; omega
                · simp only [frIn, look, Nat.reduceEqDiff, ↓reduceIte, reduceCtorEq, Bool.and_true, Bool.true_and, true_and, and_true]
                  rw [wrap_n (by omega), hn']
                  try simp
                · simp [pvIn, look]
            have hcount : ((rs ++ [d']).filter fun d => d.taken && decide (d.k ∈ ops.map Op.k)).length = (rs.filter fun d => d.taken && decide (d.k ∈ ops.map Op.k)).length + (if (d'.taken && decide (d'.k ∈ ops.map Op.k)) = true then 1 else 0) := count_snoc _ rs d'
            have hle : (rs.filter fun d => d.taken && decide (d.k ∈ ops.map Op.k)).length ≤ rs.length := List.length_filter_le _ _
            cases htk : d'.taken with
            | false =>
              have e0 : (rs.filter fun d => d.taken && decide (d.k ∈ ops.map Op.k)).length = ((rs ++ [d']).filter fun d => d.taken && decide (d.k ∈ ops.map Op.k)).length := by rw [hcount, htk]; simp
              simp (maxSteps := 2000000) only [htk, vc_skip, vc_rg, vc_ite, thenQ_n, kKeep_eq, segs_nil, segs_n, segs_g, ops_nil, ops_cons, vcOp, RO.isGh, skip_mk, skipL, ev, look, put_mk, keep_mk, keepL, GV.getT, Value.oneCell', cond_true, cond_false, Nat.reduceEqDiff, ↓reduceIte, reduceCtorEq, List.nil_append, Bool.true_and, Bool.not_true, Bool.not_false, true_and, ↓br_ft, getT_nil, fits_s, gDone_fld1, gDone_get1]
              exact tail4 _ e0 _ (ge_of (by simp [frIn, look]) (by simp [pvIn, look]) rfl rfl rfl)
            | true =>
              simp (maxSteps := 2000000) only [htk, vc_rg, segs_n, segs_g, ops_nil, ops_cons, vcOp, ev, look, put_mk, GV.getT, Nat.reduceEqDiff, ↓reduceIte, reduceCtorEq, List.nil_append, List.cons_append, Bool.true_and, Bool.not_false, true_and, ↓br_tt, getT_nil, fits_s, gStamp_fits, gOp_fld0, gOp_get0, gDone_fld0, gDone_get0, gDone_fld1, gDone_get1]
              refine ⟨d'.k, o, _, rfl, .inr (.inl ⟨one bf o, by simp, one_self _ _⟩), hmo, ?_⟩
              rw [hdk]
              by_cases hin : d.k ∈ news.map Op.k
              · simp (maxSteps := 2000000) only [lkS2, mget_cnt, if_pos hin, Option.getD_some, Int.reduceGT, vc_rg, vc_ite, thenQ_n, kKeep_eq, segs_nil, segs_n, ops_nil, ops_cons, vcOp, ev, look, put_mk, keep_mk, keepL, binV, binC, Value.oneCell', cond_true, cond_false, Nat.reduceEqDiff, ↓reduceIte, reduceCtorEq, Bool.true_and, decide_true, true_and, ↓br_tt]
                have e1 : ((rs.filter fun d => d.taken && decide (d.k ∈ ops.map Op.k)).length : Int) + 1 = (((rs ++ [d']).filter fun d => d.taken && decide (d.k ∈ ops.map Op.k)).length : Nat) := by
                  rw [hcount, htk, decide_eq_true (hmemk.1 hin)]
                  simp
                rw [wrap64 (by omega) (by omega), e1]
                exact tail4 _ rfl _ (ge_of (by simp [frIn, look]) (by simp [pvIn, look]) rfl rfl rfl)
              · simp (maxSteps := 2000000) only [lkS2, mget_cnt, if_neg hin, Option.getD_none, Int.reduceGT, vc_skip, vc_ite, thenQ_n, kKeep_eq, segs_nil, segs_n, ops_nil, ops_cons, vcOp, ev, look, put_mk, keep_mk, keepL, binV, binC, Value.oneCell', cond_true, cond_false, Nat.reduceEqDiff, ↓reduceIte, reduceCtorEq, Bool.true_and, decide_false, true_and, ↓br_tt, ↓br_ft]
                have e0 : (rs.filter fun d => d.taken && decide (d.k ∈ ops.map Op.k)).length = ((rs ++ [d']).filter fun d => d.taken && decide (d.k ∈ ops.map Op.k)).length := by rw [hcount, htk, decide_eq_false (fun h => hin (hmemk.2 h))]; simp
                exact tail4 _ e0 _ (ge_of (by simp [frIn, look]) (by simp [pvIn, look]) rfl rfl rfl)
          refine ⟨ld_of _ hS0 rfl ?_, ld_of _ hS0 rfl ?_⟩
          all_goals
            simp (maxSteps := 2000000) only [ptr, segs_nil, segs_n, ops_nil, ops_cons, ot_op, vcOp, ev, look, put_mk, Nat.reduceEqDiff, ↓reduceIte, Bool.true_and, true_and, getT_nil, gOp_fits, ptr, gDone_get0]
            refine call_with mT mr3 (dOk_spec rfl) rfl hm3 hdm3 (Q := fun rs' m' => rs' = [gUndo d'.undo, .s (.bool d'.taken)] ∧ ∃ L4, L4 .t = L .t ∧ L4 .mk = L3 .mk ∧ TM m' L4 T4) (fun w' vs hv _ _ => ?_) fun rs' mT' _ hq1 hdT => ?_
            · obtain ⟨vs, rfl, _, hv⟩ := argsV_g hv
              obtain ⟨vs, rfl, _, hv⟩ := argsV_g hv
              obtain rfl := argsV_nil hv
              have := hdo w'
              rw [hL3] at this
              exact this
            obtain ⟨rfl, L4, h41, h42, hT4⟩ := hq1
            simp (maxSteps := 2000000) only [retS, List.getElem?_cons_succ, List.getElem?_cons_zero, thenQ_n, kKeep_eq, segs_nil, segs_n, ops_nil, ops_cons, ot_done, ot_op, vcOp, ev, look, updL, put_mk, put_mk0, keep_mk, keepL, GV.getT, GV.sz, GV.same, Nat.reduceEqDiff, ↓reduceIte, reduceCtorEq, List.nil_append, Bool.and_true, Bool.true_and, true_and, and_true, getT_nil, gUndo_sz, gUndo_same, gDone_fld1, gDone_get1, gDone_set1, gDone_fld2, gDone_get2, gDone_set2]
            have ed : ({ d with undo := d'.undo, taken := d'.taken } : Done) = d' := by rw [← hd4]
            rw [ed]
            exact tail3 L4 _ h41 (h42.trans hL4) (hback (h41.trans hL3.symm) hT4 hdT) _ (ge_of (by simp [frIn, look]) (by simp [pvIn, look]) rfl rfl rfl)
        · subst hQ
          obtain rfl : i = cs.length := by omega
          simp (maxSteps := 2000000) only [vc_ret, vc_seq, vc_rg, thenQ_n, blockQ_e, kKeep_eq, loopQ_e, finQ_r, segs_nil, segs_n, ops_nil, ops_cons, vcOp, ev, look, put_mk, keep_mk, keepL, Value.oneCell', cond_true, Nat.reduceEqDiff, ↓reduceIte, reduceCtorEq, ptr]
          rw [List.take_length] at hrs
          have hgood : ({ p with T := T3, ds := p.ds.take f ++ rs, red := ((p.ds.drop f).length : Int) } : PL).good (ptr (L .mk)) kb (q + p.ds.length + ops.length) := by
            have hkk : rs.map Done.k = cs.map Done.k := by
              have h := congrArg (List.map Op.k) hrs
              rw [List.map_map, List.map_map] at h
              exact h
            refine ⟨hF3.up (by omega), hg.bok, hg.bgood, ?_, ?_, fun x hx => ?_⟩
            · simp only [List.length_append, List.length_take]; omega
            · have := placed_rising (cs := cs) (news := news) hg.ris hrn hrc (by rw [hf]; exact hpc)
              rw [hf, List.map_append] at this
              simp only [List.map_append, hkk]
              exact this
            · rcases List.mem_append.1 hx with hx | hx
              · exact hg.ops x (List.mem_of_mem_take hx)
              · have : x.op ∈ cs.map (·.op) := by rw [← hrs]; exact List.mem_map.2 ⟨x, hx, rfl⟩
                obtain ⟨y, hy, e⟩ := List.mem_map.1 this
                rw [← e]
                exact hco y hy
          have hout : ∀ x ∈ p.ds.take f, (x.taken && decide (x.k ∈ ops.map Op.k)) = false := fun x hx => by
            rw [Bool.and_eq_false_iff]
            right
            rw [decide_eq_false_iff_not]
            intro hm
            obtain ⟨op, hop, e⟩ := List.mem_map.1 hm
            exact (hlook.new op hop).1 (by rw [e]; exact List.mem_map.2 ⟨x, List.mem_of_mem_take hx, rfl⟩)
          refine fin_m m3 rfl (fun _ _ h => h) ⟨fun h => absurd hlk h, fun _ => ⟨L3, _, _, hL3, hL4, rfl, hM3, hgood, ⟨?_, rfl, rfl, rfl, ?_, fun hall => ?_, ?_⟩⟩⟩
          · simp only [List.map_append, hrs]
            have := placed_perm (ds := p.ds) (cs := cs) (news := news) (by rw [hf]; exact hpc) hpn
            rw [hf, List.map_append] at this
            exact this
          · simp only; omega
          · have : f = p.ds.length := by rw [← hf]; exact frontA_all fun op hop => hall op (hpn.mem_iff.1 hop)
            simp only [hol]
            omega
          · simp only [List.filter_append]
            have e0 : (p.ds.take f).filter (fun d => d.taken && decide (d.k ∈ ops.map Op.k)) = [] := List.filter_eq_nil_iff.2 (fun x hx => by rw [hout x hx]; simp)
            rw [e0, List.nil_append]
  rw [hov] at hS3 ⊢
  simp (maxSteps := 2000000) only [List.length_map, vc_skip, vc_seq, vc_rg, vc_rga, vc_ite, thenQ_n, kKeep_eq, segs_nil, segs_n, ops_nil, ops_cons, ot_op, ot_or, vcOp, ev, look, put_mk, keep_mk, keepL, rowE, rowD, binV, binC, Value.oneCell', cond_true, Nat.reduceEqDiff, ↓reduceIte, reduceCtorEq, List.nil_append, Nat.zero_add, Nat.add_zero, Bool.true_and, true_and, Int.reduceToNat, Int.reduceLE, decide_eq_true_eq, decide_eq_false_iff_not, br_t, getT_nil, List.length_map, gStamp_fits, gOp_fld0, gOp_get0, getD_gOp]
  refine ⟨fun h => ⟨by omega, ?_⟩, fun h => ?_⟩
  · obtain ⟨op, l, rfl⟩ : ∃ op l, news = op :: l := by
      cases news with
      | nil => simp at h
      | cons op l => exact ⟨op, l, rfl⟩
    refine ⟨ld_of _ hS3 rfl ?_, ld_of _ hS3 rfl ?_⟩
    all_goals
      simp (maxSteps := 2000000) only [List.getD_cons_zero, segs_nil, segs_n, ops_nil, ops_cons, ot_op, vcOp, ev, look, put_mk, rowD, Nat.reduceEqDiff, ↓reduceIte, Bool.true_and, true_and, List.map_cons, List.length_cons, getT_nil, List.length_map, gStamp_fits, gOp_get0]
      refine call_ism _ [.s (.int .i64 (posA p.ds op.k)), .s (.bool (hasA p.ds op.k))] rfl rfl (fun w' vs hv _ _ hm => ?_) ?_
      · obtain ⟨vs, rfl, _, hv⟩ := argsV_g hv
        obtain ⟨vs, rfl, _, hv⟩ := argsV_g hv
        obtain ⟨vs, rfl, _, hv⟩ := argsV_g hv
        obtain rfl := argsV_nil hv
        rw [← hov2]
        exact search_spec w' ov p.ds m hm hSo hof op.stamp (by omega) hg.ris
      simp (maxSteps := 2000000) only [retS, List.getElem?_cons_succ, List.getElem?_cons_zero, thenQ_n, kKeep_eq, segs_nil, segs_n, ops_nil, ops_cons, ot_done, ot_op, vcOp, ev, look, put_mk, keep_mk, keepL, Nat.reduceEqDiff, ↓reduceIte, reduceCtorEq]
      exact tail _ (ge_of (by simp [frIn, look, frontA]) (by simp [pvIn, look]) rfl rfl rfl)
  · obtain rfl : news = [] := by
      cases news with
      | nil => rfl
      | cons op l => simp at h
    exact tail _ (ge_of (by simp [frIn, look, frontA]) (by simp [pvIn, look]) rfl rfl rfl)
end Go.Proofs.YtmjiojflncffeaaGreat.Vc

/- A log: what would be, its tree, its base; a log is cut. -/
set_option linter.unusedVariables false
set_option linter.unusedSimpArgs false
set_option maxRecDepth 100000
namespace Go.Proofs.YtmjiojflncffeaaGreat.Vc
open Go Go.Proofs

theorem nameB_sz {b : ByteArray} (h : nameB b = true) : b.size ≤ 255 := by
  have := nameA_len h
  simpa using this
/-- What a tree tells may be asked for again. -/
theorem told_bnd {T : PT} {k : Nat} (hok : T.ok k) (hg : VGood T.view) : (nodesTold T).length ≤ k + 2 ∧ (∀ r ∈ nodesTold T, r.attrs.length ≤ k + 2) ∧ (∀ r ∈ nodesTold T, r.name.size ≤ 140737488355328) ∧ ∀ r ∈ nodesTold T, (Lit.int .i64 r.node).wf = true := by
  refine ⟨Nat.le_trans (nodesTold_len T) hok.many, fun r hr => by have := nodesTold_few hok hr; omega, fun r hr => ?_, fun r hr => ?_⟩
  · obtain ⟨n, _, x, hx, rfl⟩ := toldL_node hr
    show x.name.size ≤ _
    cases ht : topB n with
    | true =>
      have : x.name = ⟨#[]⟩ := (hg.top n _ (PT.view_get hx) ht).2
      rw [this]; decide
    | false =>
      have : nameB x.name = true := hg.name n _ (PT.view_get hx) ht
      have := nameB_sz this
      omega
  · obtain ⟨n, _, x, hx, rfl⟩ := toldL_node hr
    exact hok.keys n x hx
section
variable {w : World} {u : PH} {b : Nat} {L Lb : Lay} {p : PL} {kb q : Nat}
theorem nodesT (hu : u.le w) {T : PT} {k : Nat} (hT : TM u L T) (hok : T.ok k) (hk : k ≤ 1099511627776) : Spec Tryz.prog f_tree_Tree_Nodes [ptr (L .t)] PH.no w fun rs m' => ∃ v ts, rs = [.s v] ∧ SlR m' v 4 (ts.map gTreeNode) ∧ TsOk m' ts (nodesTold T) :=
  Nodes_spec w u hu L T hT (ok_tells hok hk)
theorem twin_spec (hu : u.le w) {T : PT} {k : Nat} (hT : TM u L T) (hok : T.ok k) (hg : VGood T.view) (hk : k + 4 < 1099511627776) :
    Spec Tryz.prog f_oplog_twin [ptr (L .t)] PH.no w fun rs m' => ∃ L' T', rs = [.s (ptr (L' .t))] ∧ TM m' L' T' ∧ T'.ok (k + 2) ∧ VGood T'.view ∧ T'.kidsOk ∧ T'.view = T.view := by
  refine spec_of k_oplog_twin [.g (.s (ptr (L .t)))] (by simp) (by simp [AV.ok, GV.ok, Value.oneCell', ptr]) ?_
  simp (maxSteps := 2000000) only [c_oplog_twin, ptr, vc_seq, vc_rg, thenQ_n, kKeep_eq, segs_nil, segs_n, ops_nil, ops_cons, vcOp, ev, look, put_mk, keep_mk, keepL, Value.oneCell', cond_true, ↓reduceIte, reduceCtorEq, initF, initP, ptr]
  refine call_frzm rfl rfl (Q := fun rs m' => ∃ v ts, rs = [.s v] ∧ SlR m' v 4 (ts.map gTreeNode) ∧ TsOk m' ts (nodesTold T)) (fun w' vs hv hw _ _ => ?_) fun rs m2 _ hq => ?_
  · obtain ⟨vs, rfl, _, hv⟩ := argsV_g hv
    obtain rfl := argsV_nil hv
    exact nodesT (fun b o h => hw b o (by rw [u0_no]; exact hu b o h)) hT hok (by omega)
  obtain ⟨v, ts, rfl, hs, hts⟩ := hq
  simp (maxSteps := 2000000) only [retS, ops_cons, vcOp, put_mk]
  obtain ⟨hfr, hfv⟩ := told_from hok hg
  obtain ⟨b1, b2, b3, b4⟩ := told_bnd hok hg
  refine call_ownm rfl rfl (Q := fun rs m' => ∃ L' T', rs = [.s (ptr (L' .t)), .s (.int .i64 0)] ∧ TM m' L' T' ∧ T'.ok (k + 2) ∧ VGood T'.view ∧ T'.kidsOk ∧ T'.view = T.view) (fun w' vs hv _ hph _ => ?_) fun rs m3 _ hq _ => ?_
  · obtain ⟨vs, rfl, _, hv⟩ := argsV_g hv
    obtain rfl := argsV_nil hv
    refine (From_spec w' v ts (nodesTold T) m2 (hph m2 (by simp)) hs hts (k + 2) (by omega) b1 b2 b3 b4).mono fun rs m' h => ?_
    obtain ⟨L', T', e1, e2, e3, e4, e5, e6⟩ := h.1 hfr
    exact ⟨L', T', e1, e2, e3, e4, e5, e6.trans hfv⟩
  obtain ⟨L', T', rfl, h1, h2, h3, h4, h5⟩ := hq
  simp (maxSteps := 2000000) only [retS, List.getElem?_cons_succ, List.getElem?_cons_zero, vc_ret, vc_seq, vc_rg, thenQ_n, kKeep_eq, finQ_r, segs_nil, segs_n, ops_nil, ops_cons, vcOp, ev, look, put_mk, keep_mk, keepL, Nat.reduceEqDiff, ↓reduceIte, ptr]
  exact fin_m m3 rfl (by rw [uni_no_r]; exact fun _ _ h => h) ⟨L', T', rfl, h1, h2, h3, h4, h5⟩
theorem logTree_spec (hu : u.le w) (hL : LogM u b L Lb p) {mk : Value} (hg : p.good mk kb q) (hq : q + 4 < 1099511627776) :
    Spec Tryz.prog f_oplog_Log_Tree [ptr b] PH.no w fun rs m' => ∃ L' T', rs = [.s (ptr (L' .t))] ∧ TM m' L' T' ∧ T'.ok (q + 2) ∧ VGood T'.view ∧ T'.kidsOk ∧ T'.view = p.T.view := by
  refine spec_of k_oplog_Log_Tree [.g (.s (ptr b))] (by simp) (by simp [AV.ok, GV.ok, Value.oneCell', ptr]) ?_
  obtain ⟨ov, mT, mB, hS, ⟨hT1, hT2⟩, hB, hs⟩ := hL.look
  simp (maxSteps := 2000000) only [c_oplog_Log_Tree, ptr, vc_seq, vc_rg, thenQ_n, kKeep_eq, segs_nil, segs_n, ops_nil, ops_cons, vcOp, ev, look, put_mk, keep_mk, keepL, Value.oneCell', cond_true, ↓reduceIte, reduceCtorEq, initF, initP, ptr]
  have hu' : ∀ {w' : World}, (Ctx.u0 ⟨Tryz.prog, 11, w, PH.no⟩).le w' → u.le w' := fun hw b o h => hw b o (by rw [u0_no]; exact hu b o h)
  refine call_ism _ [.s (.bool false)] rfl rfl (fun w' vs hv hw _ _ => ?_) ?_
  · obtain ⟨vs, rfl, _, hv⟩ := argsV_g hv
    obtain rfl := argsV_nil hv
    exact logNone_spec (hu' hw) hL
  simp (maxSteps := 2000000) only [retS, vc_skip, vc_seq, vc_rg, vc_ite, thenQ_n, kKeep_eq, segs_nil, segs_n, ops_nil, ops_cons, vcOp, ev, look, put_mk, keep_mk, keepL, ↓reduceIte, reduceCtorEq, Nat.add_zero, ↓br_ft]
  refine ld_of _ (hs (kn_u hu)).1 rfl ?_
  simp (maxSteps := 2000000) only [ptr, ops_cons, vcOp, put_mk, ptr]
  refine call_ownm rfl rfl (Q := fun rs m' => ∃ L' T', rs = [.s (ptr (L' .t))] ∧ TM m' L' T' ∧ T'.ok (q + 2) ∧ VGood T'.view ∧ T'.kidsOk ∧ T'.view = p.T.view) (fun w' vs hv hw _ _ => ?_) fun rs m3 _ hq _ => ?_
  · obtain ⟨vs, rfl, _, hv⟩ := argsV_g hv
    obtain rfl := argsV_nil hv
    exact twin_spec (u := mT) (fun b o h => hu' hw b o (hT1 b o h)) hT2 hg.tok hg.tgood hq
  obtain ⟨L', T', rfl, h1, h2⟩ := hq
  simp (maxSteps := 2000000) only [retS, vc_ret, thenQ_n, kKeep_eq, finQ_r, segs_nil, ops_nil, ops_cons, vcOp, ev, look, put_mk, keep_mk, keepL, ↓reduceIte, ptr]
  exact fin_m m3 rfl (by rw [uni_no_r]; exact fun _ _ h => h) ⟨L', T', rfl, h1, h2⟩
theorem logBase_spec (hu : u.le w) (hL : LogM u b L Lb p) {mk : Value} (hg : p.good mk kb q) (hq : q ≤ 1099511627776) :
    Spec Tryz.prog f_oplog_Log_Base [ptr b] PH.no w fun rs m' => ∃ v ts, rs = [.s v] ∧ SlR m' v 4 (ts.map gTreeNode) ∧ TsOk m' ts (nodesTold p.B) := by
  refine spec_of k_oplog_Log_Base [.g (.s (ptr b))] (by simp) (by simp [AV.ok, GV.ok, Value.oneCell', ptr]) ?_
  obtain ⟨ov, mT, mB, hS, hT, ⟨hB1, hB2⟩, hs⟩ := hL.look
  simp (maxSteps := 2000000) only [c_oplog_Log_Base, ptr, vc_seq, vc_rg, thenQ_n, kKeep_eq, segs_nil, segs_n, ops_nil, ops_cons, vcOp, ev, look, put_mk, keep_mk, keepL, Value.oneCell', cond_true, ↓reduceIte, reduceCtorEq, initF, initP, ptr]
  have hu' : ∀ {w' : World}, (Ctx.u0 ⟨Tryz.prog, 10, w, PH.no⟩).le w' → u.le w' := fun hw b o h => hw b o (by rw [u0_no]; exact hu b o h)
  refine call_ism _ [.s (.bool false)] rfl rfl (fun w' vs hv hw _ _ => ?_) ?_
  · obtain ⟨vs, rfl, _, hv⟩ := argsV_g hv
    obtain rfl := argsV_nil hv
    exact logNone_spec (hu' hw) hL
  simp (maxSteps := 2000000) only [retS, vc_skip, vc_seq, vc_rg, vc_ite, thenQ_n, kKeep_eq, segs_nil, segs_n, ops_nil, ops_cons, vcOp, ev, look, put_mk, keep_mk, keepL, ↓reduceIte, reduceCtorEq, Nat.zero_add, ↓br_ft]
  refine ld_of _ (hs (kn_u hu)).2.1 rfl ?_
  simp (maxSteps := 2000000) only [ptr, ops_cons, vcOp, put_mk, ptr]
  refine call_ownm rfl rfl (Q := fun rs m' => ∃ v ts, rs = [.s v] ∧ SlR m' v 4 (ts.map gTreeNode) ∧ TsOk m' ts (nodesTold p.B)) (fun w' vs hv hw _ _ => ?_) fun rs m3 _ hq _ => ?_
  · obtain ⟨vs, rfl, _, hv⟩ := argsV_g hv
    obtain rfl := argsV_nil hv
    exact nodesT (u := mB) (fun b o h => hu' hw b o (hB1 b o h)) hB2 hg.bok (by have := hg.many; omega)
  obtain ⟨v, ts, rfl, h1, h2⟩ := hq
  simp (maxSteps := 2000000) only [retS, vc_ret, thenQ_n, kKeep_eq, finQ_r, segs_nil, ops_nil, ops_cons, vcOp, ev, look, put_mk, keep_mk, keepL, ↓reduceIte]
  exact fin_m m3 rfl (by rw [uni_no_r]; exact fun _ _ h => h) ⟨v, ts, rfl, h1, h2⟩
end
end Go.Proofs.YtmjiojflncffeaaGreat.Vc

/- The code of some functions of the program, its types resolved: printed by a program of this claim. -/
set_option linter.unusedVariables false
set_option maxRecDepth 100000
namespace Go.Proofs.YtmjiojflncffeaaGreat.Vc
open Go Go.Proofs

abbrev f_ref12_SameNode : Nat := 55
def c_ref12_SameNode_L0 : Cd :=
 (.seq (.seq (.rg [⟨none, [(some 34, .mv (.t 5)), (some 35, .fldA (.t 2) 3 3), (some 36, .ld (.t 35) 1 false), (some 37, .len (.t 36)), (some 38, .bin .lss (.t 34) (.t 37))]⟩] [2, 3, 5, 38])
 (.ite (.t 38)
 .skip
 (.exit 0)))
 (.seq (.block 1 (.seq (.rgq [⟨none, [(some 41, .fldA (.t 2) 3 3), (some 42, .ld (.t 41) 1 false), (some 43, .mv (.t 5)), (some 44, .idxS (.t 42) (.t 43) 2), (some 45, .ld (.t 44) 2 true), (some 46, .fldA (.t 3) 3 3), (some 47, .ld (.t 46) 1 false), (some 48, .mv (.t 5)), (some 49, .idxS (.t 47) (.t 48) 2), (some 50, .ld (.t 49) 2 true)]⟩] [⟨none, [(some 51, .eqA true 75 (.t 45) (.t 50))]⟩] [2, 3, 5, 51])
 (.ite (.t 51)
 (.seq (.rg [⟨none, [(some 4, .mv (.c (.bool false)))]⟩] [4])
 .ret)
 .skip)))
 (.rg [⟨none, [(some 39, .mv (.t 5)), (some 40, .bin .add (.t 39) (.c (.int .i64 1))), (some 5, .mv (.t 40))]⟩] [2, 3, 5])))
def c_ref12_SameNode : Cd :=
 (.seq (.rg [⟨none, [(some 2, .box 49 (.t 0)), (some 3, .box 49 (.t 1)), (some 4, .mv (.c (.bool false)))]⟩] [2, 3])
 (.seq (.seq (.rg [⟨none, [(some 6, .fldA (.t 2) 0 0), (some 7, .ld (.t 6) 1 false), (some 8, .fldA (.t 3) 0 0), (some 9, .ld (.t 8) 1 false), (some 10, .bin .neq (.t 7) (.t 9)), (some 11, .mv (.t 10))]⟩, ⟨some (11, false), [(some 12, .fldA (.t 2) 1 1), (some 13, .ld (.t 12) 1 false), (some 14, .fldA (.t 3) 1 1), (some 15, .ld (.t 14) 1 false), (some 16, .bin .neq (.t 13) (.t 15))]⟩, ⟨none, [(some 17, .pick (.t 11) (.c (.bool true)) (.t 16)), (some 18, .mv (.t 17))]⟩, ⟨some (18, false), [(some 19, .fldA (.t 2) 2 2), (some 20, .ld (.t 19) 1 false), (some 21, .fldA (.t 3) 2 2), (some 22, .ld (.t 21) 1 false), (some 23, .bin .neq (.t 20) (.t 22))]⟩, ⟨none, [(some 24, .pick (.t 18) (.c (.bool true)) (.t 23)), (some 25, .mv (.t 24))]⟩, ⟨some (25, false), [(some 26, .fldA (.t 2) 3 3), (some 27, .ld (.t 26) 1 false), (some 28, .len (.t 27)), (some 29, .fldA (.t 3) 3 3), (some 30, .ld (.t 29) 1 false), (some 31, .len (.t 30)), (some 32, .bin .neq (.t 28) (.t 31))]⟩, ⟨none, [(some 33, .pick (.t 25) (.c (.bool true)) (.t 32))]⟩] [2, 3, 33])
 (.ite (.t 33)
 (.seq (.rg [⟨none, [(some 4, .mv (.c (.bool false)))]⟩] [4])
 .ret)
 .skip))
 (.seq (.seq (.rg [⟨none, [(some 5, .mv (.c (.int .i64 0)))]⟩] [2, 3, 5])
 (.block 0 (.loop c_ref12_SameNode_L0)))
 (.seq (.rg [⟨none, [(some 4, .mv (.c (.bool true)))]⟩] [4])
 .ret))))
theorem k_ref12_SameNode : Ok Tryz.prog 55 c_ref12_SameNode 52 [(6, 10)] [.tmp 4] := Ok.mk' Tryz.func55 (by kernel_rfl) (by kernel_rfl) (by kernel_rfl)

abbrev f_ref12_Same : Nat := 20
def c_ref12_Same_L0 : Cd :=
 (.seq (.seq (.rg [⟨none, [(some 11, .mv (.t 5)), (some 12, .mv (.t 0)), (some 13, .len (.t 12)), (some 14, .bin .lss (.t 11) (.t 13))]⟩] [0, 1, 5, 14])
 (.ite (.t 14)
 .skip
 (.exit 0)))
 (.seq (.block 1 (.seq (.rgq [⟨none, [(some 17, .mv (.t 0)), (some 18, .mv (.t 5)), (some 19, .idxS (.t 17) (.t 18) 4), (some 20, .ld (.t 19) 4 true), (some 21, .mv (.t 1)), (some 22, .mv (.t 5)), (some 23, .idxS (.t 21) (.t 22) 4), (some 24, .ld (.t 23) 4 true)]⟩] [⟨none, [(some 25, .call 55 [(.t 20), (.t 24)]), (some 26, .un .not (.t 25))]⟩] [0, 1, 5, 26])
 (.ite (.t 26)
 (.seq (.rg [⟨none, [(some 4, .mv (.c (.bool false)))]⟩] [4])
 .ret)
 .skip)))
 (.rg [⟨none, [(some 15, .mv (.t 5)), (some 16, .bin .add (.t 15) (.c (.int .i64 1))), (some 5, .mv (.t 16))]⟩] [0, 1, 5])))
def c_ref12_Same : Cd :=
 (.seq (.rg [⟨none, [(some 4, .mv (.c (.bool false)))]⟩] [0, 1])
 (.seq (.seq (.rg [⟨none, [(some 6, .mv (.t 0)), (some 7, .len (.t 6)), (some 8, .mv (.t 1)), (some 9, .len (.t 8)), (some 10, .bin .neq (.t 7) (.t 9))]⟩] [0, 1, 10])
 (.ite (.t 10)
 (.seq (.rg [⟨none, [(some 4, .mv (.c (.bool false)))]⟩] [4])
 .ret)
 .skip))
 (.seq (.seq (.rg [⟨none, [(some 5, .mv (.c (.int .i64 0)))]⟩] [0, 1, 5])
 (.block 0 (.loop c_ref12_Same_L0)))
 (.seq (.rg [⟨none, [(some 4, .mv (.c (.bool true)))]⟩] [4])
 .ret))))
theorem k_ref12_Same : Ok Tryz.prog 20 c_ref12_Same 27 [(6, 8)] [.tmp 4] := Ok.mk' Tryz.func20 (by kernel_rfl) (by kernel_rfl) (by kernel_rfl)

end Go.Proofs.YtmjiojflncffeaaGreat.Vc

/- The document's lists of nodes: compared. -/
set_option linter.unusedVariables false
set_option linter.unusedSimpArgs false
set_option maxRecDepth 100000
namespace Go.Proofs.YtmjiojflncffeaaGreat.Vc
open Go Go.Proofs

theorem SlR.spot {u : PH} {a : Option Addr} {n c z : Nat} {xs : List GV} (h : SlR u (.slice a n c) z xs) (hne : 0 < xs.length) :
    ∃ b o, a = some ⟨b, o, none⟩ ∧ n = xs.length ∧ n ≤ c ∧ ∀ {C : Ctx} {ph : List PH} {m : PH}, KN C.u0 (m :: ph) u → ∀ i x, xs[i]? = some x → Seen C ph m b (o + i * z) x := by
  rcases h.shape with ⟨h1, _⟩ | ⟨_, b, o, c', h1, h2, h3⟩
  · subst h1; simp at hne
  · simp only [Value.slice.injEq] at h1
    obtain ⟨rfl, rfl, rfl⟩ := h1
    exact ⟨b, o, rfl, rfl, h2, h3⟩
theorem seen_fst {C : Ctx} {ph : List PH} {m : PH} {b o : Nat} {x y : GV} (h : Seen C ph m b o (.c x y)) : Seen C ph m b o x := by
  obtain ⟨h1, cs, e, fz, h2, h3⟩ := h
  exact ⟨h1.1, cs, e, fz, h2, fun j v hj => h3 j v (by
    rw [GV.flat, List.getElem?_append_left (List.getElem?_eq_some_iff.1 hj).1]; exact hj)⟩
theorem TnOk_one {u : PH} {t : TreeNode} {l : List Attr} (h : SlR u t.attrs 2 (l.map gAttr)) : t.attrs.oneCell' = true := by
  rcases h.2 with ⟨e, _⟩ | ⟨ad, c, e, _⟩ <;> rw [e] <;> rfl

theorem rSameNode_spec (w : World) (t1 t2 : TreeNode) (a b : TN) (u : PH) (hu : u.le w) (h1 : t1.node = a.node ∧ t1.parent = a.parent ∧ t1.name = a.name ∧ SlR u t1.attrs 2 (a.attrs.map gAttr)) (h2 : t2.node = b.node ∧ t2.parent = b.parent ∧ t2.name = b.name ∧ SlR u t2.attrs 2 (b.attrs.map gAttr))
    (hb : a.attrs.length ≤ 140737488355328) :
    Spec Tryz.prog f_ref12_SameNode [(gTreeNode t1).val, (gTreeNode t2).val] PH.no w fun rs _ => rs = [.s (.bool (decide (a = b)))] := by
  refine spec_val k_ref12_SameNode (Qf := fun rs => rs = [.s (.bool (decide (a = b)))]) [.g (gTreeNode t1), .g (gTreeNode t2)] (by simp) (by simp [AV.ok, gTreeNode_ok t1 (TnOk_one h1.2.2.2), gTreeNode_ok t2 (TnOk_one h2.2.2.2)]) ?_
  obtain ⟨n1, p1, m1, la⟩ := a
  obtain ⟨n2, p2, m2, lb⟩ := b
  obtain ⟨n1', p1', m1', v1⟩ := t1
  obtain ⟨n2', p2', m2', v2⟩ := t2
  obtain ⟨e1, e2, e3, h1⟩ := h1
  obtain ⟨g1, g2, g3, h2⟩ := h2
  simp only at e1 e2 e3 g1 g2 g3 h1 h2 hb
  subst e1; subst e2; subst e3; subst g1; subst g2; subst g3
  obtain ⟨a1, c1, hv1⟩ := slr_len h1
  obtain ⟨a2, c2, hv2⟩ := slr_len h2
  rw [List.length_map] at hv1 hv2
  subst hv1; subst hv2
  simp (maxSteps := 2000000) only [c_ref12_SameNode, vc_skip, vc_ret, vc_seq, vc_block, vc_rg, vc_ite, thenQ_n, thenQ_r, kKeep_eq, segs_nil, segs_n, segs_g, ops_nil, ops_cons, vcOp, RO.isGh, skip_mk, skipL, ev, look, updL, put_mk, keep_mk, keepL, binV, binC, GV.getT, Value.oneCell', cond_true, cond_false, Nat.reduceEqDiff, ↓reduceIte, reduceCtorEq, List.nil_append, Nat.zero_add, Bool.true_and, Bool.not_false, true_and, initF, initP, finW_r, resL, resOne, ↓br_tt, ↓br_tf, ↓br_ft, br_t, br_f, getT_nil, fits_s, gTreeNode_fld0, gTreeNode_get0, gTreeNode_fld1, gTreeNode_get1, gTreeNode_fld2, gTreeNode_get2, gTreeNode_fld3, gTreeNode_get3]
  refine ⟨fun k1 => ⟨fun k2 => ⟨fun k3 => ⟨fun k4 => ?_, fun k4 => ?_⟩, fun k3 => ?_⟩, fun k2 => ?_⟩, fun k1 => ?_⟩
  · rw [bne_iff_ne] at k4
    rw [decide_eq_false fun e => k4 (by cases e; rfl)]
  · rw [bne_eq_false_iff_eq] at k1 k2 k4
    simp only [Bool.not_eq_false', decide_eq_true_eq] at k3
    have hll : la.length = lb.length := by omega
    subst k1; subst k2; subst k3
    refine vc_loop (ι := Nat) (fun i => ⟨[(2, .ref 2 []), (3, .ref 3 []), (5, .g (.s (.int .i64 (i))))], [(2, .box (gTreeNode ⟨n1', p1', m1', .slice a1 la.length c1⟩)), (3, .box (gTreeNode ⟨n1', p1', m1', .slice a2 lb.length c2⟩))], [], PH.no⟩) (fun i => i ≤ la.length ∧ la.take i = lb.take i) (fun i => la.length - i) 0 (by simp) (ge_of ?_ ?_ rfl rfl rfl) ?_
    · simp [frIn, look]
    · simp [pvIn, look]
    rintro i ⟨hi, hj⟩
    generalize hQ : loopQ _ _ _ _ _ = Q
    by_cases hlt : i < la.length
    · obtain ⟨b1, o1, rfl, _, _, s1⟩ := h1.spot (by simp; omega)
      obtain ⟨b2, o2, rfl, _, _, s2⟩ := h2.spot (by simp; omega)
      have hx1 : (la.map gAttr)[i]? = some (gAttr (la.getD i zAttr)) := by rw [List.getElem?_map, List.getD_eq_getElem?_getD, List.getElem?_eq_getElem hlt]; rfl
      have hx2 : (lb.map gAttr)[i]? = some (gAttr (lb.getD i zAttr)) := by rw [List.getElem?_map, List.getD_eq_getElem?_getD, List.getElem?_eq_getElem (by omega)]; rfl
      simp (maxSteps := 2000000) only [c_ref12_SameNode_L0, vc_skip, vc_exit, vc_seq, vc_block, vc_rg, vc_rgq, vc_ite, thenQ_n, thenQ_e, kKeep_eq, segs_nil, segs_n, ops_nil, ops_cons, qsegs_n, qops_cons, vcqOp, vcOp, isRd, ev, look, put_mk, keep_mk, keepL, binV, binC, GV.getT, Nat.reduceEqDiff, ↓reduceIte, List.nil_append, Bool.true_and, Bool.not_false, true_and, Int.toNat_natCast, decide_eq_true_eq, decide_eq_false_iff_not, br_t, getT_nil, fits_s, gTreeNode_fld3, gTreeNode_get3]
      refine ⟨fun _ => ⟨⟨by omega, by omega⟩, ld_of _ (s1 (kn_u hu) i _ hx1) (gAttr_fits _) ?_⟩, fun h => absurd (show (i : Int) < la.length by omega) h⟩
      simp (maxSteps := 2000000) only [qops_cons, vcqOp, vcOp, isRd, ev, look, put_mk, GV.getT, Nat.reduceEqDiff, ↓reduceIte, List.nil_append, Bool.true_and, Bool.not_false, true_and, Int.toNat_natCast, getT_nil, fits_s, gTreeNode_fld3, gTreeNode_get3]
      refine ⟨⟨by omega, by omega⟩, ld_of _ (s2 (kn_u hu) i _ hx2) (gAttr_fits _) ?_⟩
      simp (maxSteps := 2000000) only [segs_n, ops_cons, qsegs_nil, qops_nil, vcOp, ev, look, put_mk, Nat.reduceEqDiff, ↓reduceIte]
      refine eq_of (eqG_attr _ _) ?_
      simp (maxSteps := 2000000) only [Bool.not_eq_true', Bool.not_eq_false', decide_eq_false_iff_not, decide_eq_true_eq, vc_skip, vc_ret, vc_seq, vc_rg, vc_ite, thenQ_n, thenQ_r, blockQ_n, blockQ_r, kKeep_eq, segs_nil, segs_n, ops_nil, ops_cons, vcOp, ev, look, put_mk, keep_mk, keepL, binV, binC, Value.oneCell', cond_true, Nat.reduceEqDiff, ↓reduceIte, Bool.true_and, true_and, decide_eq_true_eq, decide_eq_false_iff_not, br_t, Bool.bne_true]
      refine ⟨fun hne => ?_, fun he => ?_⟩
      · subst hQ
        simp (maxSteps := 2000000) only [thenQ_r, blockQ_r, loopQ_r, look, ↓reduceIte, finW_r, resL, resOne]
        rw [decide_eq_false fun e => hne (by cases e; rfl)]
      · subst hQ; simp only [loopQ_n]; refine ⟨i + 1, ?_, ?_, ge_of ?_ ?_ rfl rfl rfl⟩
        · refine ⟨by omega, ?_⟩
          rw [List.take_add_one, List.take_add_one, hj]
          congr 1
          rw [List.getD_eq_getElem?_getD, List.getD_eq_getElem?_getD, List.getElem?_eq_getElem (by omega), List.getElem?_eq_getElem (by omega)] at he
          rw [List.getElem?_eq_getElem (by omega), List.getElem?_eq_getElem (by omega)]
          simpa using he
        · omega
        · simp only [frIn, look, Nat.reduceEqDiff, ↓reduceIte, Bool.and_true, Bool.true_and, true_and, and_true]
          rw [wrap_n (by omega)]
          try simp
        · simp [pvIn, look]
    · simp (maxSteps := 2000000) only [c_ref12_SameNode_L0, vc_skip, vc_exit, vc_seq, vc_block, vc_rg, vc_rgq, vc_ite, thenQ_n, thenQ_e, kKeep_eq, segs_nil, segs_n, ops_nil, ops_cons, qsegs_nil, qsegs_n, qops_nil, qops_cons, vcqOp, vcOp, isRd, ev, look, put_mk, keep_mk, keepL, rowE, rowD, binV, binC, GV.getT, Nat.reduceEqDiff, ↓reduceIte, List.nil_append, Bool.true_and, Bool.not_false, true_and, decide_eq_true_eq, decide_eq_false_iff_not, br_t, getT_nil, fits_s, gTreeNode_fld3, gTreeNode_get3]
      refine ⟨fun h => absurd (show i < la.length by omega) hlt, fun _ => ?_⟩
      subst hQ
      simp (maxSteps := 2000000) only [vc_ret, vc_seq, vc_rg, thenQ_n, blockQ_e, kKeep_eq, loopQ_e, segs_nil, segs_n, ops_nil, ops_cons, vcOp, ev, look, put_mk, keep_mk, keepL, Value.oneCell', cond_true, ↓reduceIte, finW_r, resL, resOne]
      have e1 : la.take i = la := List.take_of_length_le (by omega)
      have e2 : lb.take i = lb := List.take_of_length_le (by omega)
      rw [e1, e2] at hj
      rw [decide_eq_true (by rw [hj])]
  · rw [decide_eq_false fun e => by cases e; simp at k3]
  · rw [bne_iff_ne] at k2
    rw [decide_eq_false fun e => k2 (by cases e; rfl)]
  · rw [bne_iff_ne] at k1
    rw [decide_eq_false fun e => k1 (by cases e; rfl)]

theorem rSame_spec (w : World) (va vb : Value) (ts1 ts2 : List TreeNode) (l1 l2 : List TN) (u : PH) (hu : u.le w) (ha : SlR u va 4 (ts1.map gTreeNode)) (hb : SlR u vb 4 (ts2.map gTreeNode)) (h1 : TsOk u ts1 l1) (h2 : TsOk u ts2 l2)
    (hn : ts1.length ≤ 140737488355328) (hs1 : ∀ t ∈ l1, t.attrs.length ≤ 140737488355328) :
    Spec Tryz.prog f_ref12_Same [va, vb] PH.no w fun rs _ => rs = [.s (.bool (decide (l1 = l2)))] := by
  refine spec_val k_ref12_Same (Qf := fun rs => rs = [.s (.bool (decide (l1 = l2)))]) [.ro va 4 (gTreeNode zTreeNode) (ts1.map gTreeNode), .ro vb 4 (gTreeNode zTreeNode) (ts2.map gTreeNode)] (by simp) (by simpa [AV.ok, u0_no] using ⟨ha.up hu.sub, hb.up hu.sub⟩) ?_
  have hl1 := h1.len
  have hl2 := h2.len
  simp (maxSteps := 2000000) only [c_ref12_Same, vc_skip, vc_ret, vc_seq, vc_block, vc_rg, vc_ite, thenQ_n, thenQ_r, kKeep_eq, segs_nil, segs_n, ops_nil, ops_cons, vcOp, ev, look, put_mk, keep_mk, keepL, binV, binC, Value.oneCell', cond_true, Nat.reduceEqDiff, ↓reduceIte, reduceCtorEq, Nat.zero_add, Bool.true_and, true_and, initF, initP, finW_r, resL, resOne, br_t, List.length_map, List.length_map]
  refine ⟨fun hne => ?_, fun heq => ?_⟩
  · rw [bne_iff_ne] at hne
    rw [decide_eq_false fun e => hne (by rw [hl1, hl2, e])]
  rw [bne_eq_false_iff_eq] at heq
  refine vc_loop (ι := Nat) (fun i => ⟨[(0, .row 0 0 (ts1.length)), (1, .row 1 0 (ts2.length)), (5, .g (.s (.int .i64 (i))))], [(0, .ro 4 (gTreeNode zTreeNode) (ts1.map gTreeNode)), (1, .ro 4 (gTreeNode zTreeNode) (ts2.map gTreeNode))], [], PH.no⟩) (fun i => i ≤ ts1.length ∧ l1.take i = l2.take i) (fun i => ts1.length - i) 0 (by simp) (ge_of ?_ ?_ rfl rfl rfl) ?_
  · simp [frIn, look]
  · simp [pvIn, look]
  rintro i ⟨hi, hj⟩
  generalize hQ : loopQ _ _ _ _ _ = Q
  simp (maxSteps := 2000000) only [c_ref12_Same_L0, vc_skip, vc_exit, vc_seq, vc_block, vc_rg, vc_rgq, vc_ite, thenQ_n, thenQ_e, kKeep_eq, segs_nil, segs_n, ops_nil, ops_cons, qsegs_nil, qsegs_n, qops_nil, qops_cons, vcqOp, vcOp, isRd, ev, look, put_mk, keep_mk, keepL, rowE, rowD, binV, binC, Nat.reduceEqDiff, ↓reduceIte, reduceCtorEq, Nat.zero_add, Bool.true_and, true_and, Int.toNat_natCast, decide_eq_true_eq, decide_eq_false_iff_not, br_t, getT_nil, gTreeNode_fits, getD_gTreeNode]
  refine ⟨fun hlt => ⟨⟨by omega, by omega⟩, ⟨by omega, by omega⟩, ?_⟩, fun hlt => ?_⟩
  · have g1 := h1.at i (by omega)
    have g2 := h2.at i (by omega)
    have hm1 : l1.getD i zTN ∈ l1 := by rw [List.getD_eq_getElem?_getD, List.getElem?_eq_getElem (by omega)]; exact List.getElem_mem _
    refine call_is _ [.s (.bool (decide (l1.getD i zTN = l2.getD i zTN)))] rfl rfl (fun w' vs hv hw => ?_) ?_
    · obtain ⟨vs, rfl, _, hv⟩ := argsV_g hv
      obtain ⟨vs, rfl, _, hv⟩ := argsV_g hv
      obtain rfl := argsV_nil hv
      intro _
      exact rSameNode_spec w' _ _ _ _ u (fun b o h => hw b o (by rw [u0_no]; exact hu b o h)) g1 g2 (hs1 _ hm1)
    simp (maxSteps := 2000000) only [retS, Bool.not_eq_true', Bool.not_eq_false', decide_eq_false_iff_not, decide_eq_true_eq, vc_skip, vc_ret, vc_seq, vc_rg, vc_ite, thenQ_n, thenQ_r, blockQ_n, blockQ_r, kKeep_eq, segs_nil, segs_n, ops_nil, ops_cons, vcOp, ev, look, put_mk, keep_mk, keepL, binV, binC, unV, Value.oneCell', cond_true, Nat.reduceEqDiff, ↓reduceIte, reduceCtorEq, Bool.true_and, true_and, decide_eq_true_eq, decide_eq_false_iff_not, br_t]
    refine ⟨fun hne => ?_, fun he => ?_⟩
    · subst hQ
      simp (maxSteps := 2000000) only [thenQ_r, blockQ_r, loopQ_r, look, ↓reduceIte, finW_r, resL, resOne]
      rw [decide_eq_false fun e => hne (by rw [e])]
    · subst hQ; simp only [loopQ_n]; refine ⟨i + 1, ?_, ?_, ge_of ?_ ?_ rfl rfl rfl⟩
      · refine ⟨by omega, ?_⟩
        rw [List.take_add_one, List.take_add_one, hj]
        congr 1
        rw [List.getD_eq_getElem?_getD, List.getD_eq_getElem?_getD, List.getElem?_eq_getElem (by omega), List.getElem?_eq_getElem (by omega)] at he
        rw [List.getElem?_eq_getElem (by omega), List.getElem?_eq_getElem (by omega)]
        simpa using he
      · omega
      · simp only [frIn, look, Nat.reduceEqDiff, ↓reduceIte, reduceCtorEq, Bool.and_true, Bool.true_and, true_and, and_true]
        rw [wrap_n (by omega)]
        try simp
      · simp [pvIn, look]
  · subst hQ
    simp (maxSteps := 2000000) only [vc_ret, vc_seq, vc_rg, thenQ_n, blockQ_e, kKeep_eq, loopQ_e, segs_nil, segs_n, ops_nil, ops_cons, vcOp, ev, look, put_mk, keep_mk, keepL, Value.oneCell', cond_true, ↓reduceIte, finW_r, resL, resOne]
    have e1 : l1.take i = l1 := List.take_of_length_le (by omega)
    have e2 : l2.take i = l2 := List.take_of_length_le (by omega)
    rw [e1, e2] at hj
    rw [decide_eq_true hj]
end Go.Proofs.YtmjiojflncffeaaGreat.Vc

/- A log is cut. -/
set_option linter.unusedVariables false
set_option linter.unusedSimpArgs false
set_option maxRecDepth 100000
namespace Go.Proofs.YtmjiojflncffeaaGreat.Vc
open Go Go.Proofs

/-- How many operations are at or below a time. -/
def cutA (ds : List Done) (t : Int) : Nat := (ds.takeWhile fun d => decide (d.op.stamp.time ≤ t)).length
theorem cutA_le (ds : List Done) (t : Int) : cutA ds t ≤ ds.length := (List.takeWhile_prefix _).length_le
theorem cutA_of : ∀ {ds : List Done} {t : Int} {i : Nat}, i ≤ ds.length → (∀ j, j < i → (ds.getD j zDone).op.stamp.time ≤ t) → (i < ds.length → ¬ (ds.getD i zDone).op.stamp.time ≤ t) → cutA ds t = i
  | [], t, i, h, _, _ => by simp at h; subst h; rfl
  | d :: ds, t, 0, _, _, h => by
    have : ¬ d.op.stamp.time ≤ t := h (by simp)
    simp [cutA, List.takeWhile_cons, this]
  | d :: ds, t, i + 1, h, h1, h2 => by
    have h0 : d.op.stamp.time ≤ t := h1 0 (by omega)
    have ih := cutA_of (ds := ds) (t := t) (i := i) (by simpa using h) (fun j hj => h1 (j + 1) (by omega)) (fun hi => h2 (by simpa using hi))
    simp only [cutA] at ih
    simp [cutA, List.takeWhile_cons, h0, ih]
/-- The log behind a cut. -/
def PL.cut (p : PL) (t : Int) (i1 : List Int) : PL := { p with B := ideal p.B ((p.ds.take (cutA p.ds t)).map (·.op)), fr := t, ds := p.ds.drop (cutA p.ds t), i0 := i1 }
theorem PL.good.cut {p : PL} {mk : Value} {kb q : Nat} (h : p.good mk kb q) (t : Int) : ∃ i1, (p.cut t i1).good mk (kb + cutA p.ds t) q := by
  have hl := cutA_le p.ds t
  generalize hn : cutA p.ds t = n at hl
  have hh := h.fl.hist
  rw [← List.take_append_drop n p.ds] at hh
  obtain ⟨i1, _, h2⟩ := hh.drop
  have ho : ∀ op ∈ (p.ds.take n).map (·.op), OpOk op := fun op hop => by
    obtain ⟨d, hd, rfl⟩ := List.mem_map.1 hop
    exact h.ops d (List.mem_of_mem_take hd)
  refine ⟨i1, ⟨⟨?_, ?_, h.fl.ex, h.fl.last, h.fl.ids⟩, ?_, ?_, ?_, ?_, ?_⟩⟩
  · simp only [PL.cut, hn]; exact h2
  · simp only [PL.cut, hn]
    rw [← ideal_app, ← List.map_append, List.take_append_drop]
    exact h.fl.view
  · simp only [PL.cut, hn]
    have := ideal_ok h.bok ho
    rwa [List.length_map, List.length_take, Nat.min_eq_left hl] at this
  · simp only [PL.cut, hn]
    exact ideal_good h.bok h.bgood ho
  · simp only [PL.cut, hn, List.length_drop]
    have := h.many
    omega
  · simp only [PL.cut, hn]
    exact List.Pairwise.sublist ((List.drop_sublist _ _).map _) h.ris
  · simp only [PL.cut, hn]
    exact fun d hd => h.ops d (List.mem_of_mem_drop hd)

theorem LogM.reI {m : PH} {b : Nat} {L Lb : Lay} {p : PL} (h : LogM m b L Lb p) (i : List Int) : LogM m b L Lb { p with i0 := i } := by
  obtain ⟨ov, e, mo, mT, mB, rfl, q⟩ := h
  exact ⟨ov, e, mo, mT, mB, rfl, ⟨q.d1, q.d2, q.d3, q.ops, q.tree, q.base⟩⟩
theorem sub_skip {a c x : PH} (h : dis a x) : PH.sub (uni c x) (uni c (uni a x)) := fun k o hk => by
  simp only [uni] at hk ⊢
  cases h1 : c k with
  | some y => rw [h1] at hk; simpa [h1] using hk
  | none =>
    rw [h1] at hk
    have hk : x k = some o := by simpa using hk
    have := sub_uni_r h k o hk
    simpa [uni] using this
theorem cut_spec (w : World) (m : PH) (b : Nat) (L Lb : Lay) (p : PL) (hL : LogM m b L Lb p) {mk : Value} {kb q : Nat} (hg : p.good mk kb q) (hq : q < 1099511627776) (hfew : p.ds.length ≤ 549755813888) (t : Int) :
    Spec Tryz.prog f_oplog_Log_Cut [ptr b, .int .i64 t] m w fun rs m' =>
      (t < p.fr ∨ 1099511627776 < t → rs = [.s (.int .i64 1)] ∧ LogM m' b L Lb p) ∧
      (¬ (t < p.fr ∨ 1099511627776 < t) → rs = [.s (.int .i64 0)] ∧ ∀ i1, ∃ Lb', Lb' .t = Lb .t ∧ LogM m' b L Lb' (p.cut t i1)) := by
  refine spec_of k_oplog_Log_Cut [.g (.s (ptr b)), .g (.s (.int .i64 t))] (by simp) (by simp [AV.ok, GV.ok, Value.oneCell', ptr]) ?_
  have hof : ∀ d ∈ p.ds, d.undo.of.oneCell' = true ∨ True := fun d hd => .inr trivial
  obtain ⟨ov0, _, _, hS0, _, _, hs0⟩ := hL.look
  simp (maxSteps := 2000000) only [c_oplog_Log_Cut, ptr, vc_seq, vc_block, vc_rg, thenQ_n, kKeep_eq, segs_nil, segs_n, ops_nil, ops_cons, vcOp, ev, look, put_mk, keep_mk, keepL, Value.oneCell', cond_true, Nat.reduceEqDiff, ↓reduceIte, reduceCtorEq, Nat.zero_add, initF, initP, ptr]
  refine call_ism _ [.s (.bool false)] rfl rfl (fun w' vs hv _ _ hm => ?_) ?_
  · obtain ⟨vs, rfl, _, hv⟩ := argsV_g hv
    obtain rfl := argsV_nil hv
    exact logNone_spec hm hL
  simp (maxSteps := 2000000) only [retS, vc_seq, vc_rg, vc_ite, thenQ_n, kKeep_eq, segs_nil, segs_n, ops_nil, ops_cons, vcOp, ev, look, put_mk, keep_mk, keepL, Nat.reduceEqDiff, ↓reduceIte, reduceCtorEq, Nat.zero_add, ↓br_ft]
  refine ld_of _ (hs0 (KN.mem (by simp))).2.2.1 rfl ?_
  simp (maxSteps := 2000000) only [vc_skip, vc_ret, vc_seq, vc_block, vc_rg, vc_ite, thenQ_n, thenQ_r, blockQ_n, blockQ_r, kKeep_eq, finQ_r, segs_nil, segs_n, segs_g, ops_nil, ops_cons, vcOp, RO.isGh, skip_mk, skipL, ev, look, put_mk, keep_mk, keepL, binV, binC, Value.oneCell', cond_true, cond_false, Nat.reduceEqDiff, ↓reduceIte, reduceCtorEq, Bool.true_and, Bool.not_false, true_and, decide_eq_true_eq, decide_eq_false_iff_not, ↓br_tt, ↓br_ft, br_t, br_f]
  refine ⟨fun h1 => ⟨fun h2 => fin_m m rfl (fun _ _ h => h) ⟨fun _ => ⟨rfl, hL⟩, fun h => absurd (.inr h2) h⟩, fun h2 => ?_⟩, fun h1 => fin_m m rfl (fun _ _ h => h) ⟨fun _ => ⟨rfl, hL⟩, fun h => absurd (.inl h1) h⟩⟩
  refine vc_loop (ι := Nat × Lay × PH) (fun x => ⟨[(0, .g (.s (.pointer (some ⟨b, 0, none⟩)))), (1, .g (.s (.int .i64 (t)))), (5, .g (.s (.int .i64 (x.1))))], [], [], x.2.2⟩)
    (fun x => x.1 ≤ p.ds.length ∧ (∀ j, j < x.1 → (p.ds.getD j zDone).op.stamp.time ≤ t) ∧ x.2.1 .t = Lb .t ∧ LogM x.2.2 b L x.2.1 { p with B := ideal p.B ((p.ds.take x.1).map (·.op)) }) (fun x => p.ds.length - x.1) (0, Lb, m) ⟨by simp, by simp, rfl, hL⟩ (ge_of ?_ ?_ rfl rfl rfl) ?_
  · simp [frIn, look]
  · simp [pvIn, look]
  rintro ⟨n, L1, m1⟩ ⟨hn, hj, hL1, hM⟩
  simp only at hn hj hL1 hM
  generalize hQ : loopQ _ _ _ _ _ = Q
  obtain ⟨ov, mT, mB, hS, _, _, hs⟩ := hM.look
  have hs1 := hs (C := ⟨Tryz.prog, 70, w, m⟩) (ph := []) (m' := m1) (KN.mem (by simp))
  have stop : (n < p.ds.length → ¬ (p.ds.getD n zDone).op.stamp.time ≤ t) → ∀ σ : SS, Ge σ ⟨[(0, .g (.s (.pointer (some ⟨b, 0, none⟩)))), (1, .g (.s (.int .i64 (t)))), (5, .g (.s (.int .i64 (n))))], [], [], m1⟩ → Q (.exit 1) σ := by
    intro hst σ hσ
    subst hQ
    simp only [loopQ_e, blockQ_e, if_true, thenQ_n, vc_seq]
    refine vc_gh_of_ge hσ ?_
    simp (maxSteps := 2000000) only [vc_rg, segs_n, ops_cons, vcOp, ev, look, put_mk, ↓reduceIte, reduceCtorEq, Nat.zero_add]
    have hs3 := hs1.2.2.2.1
    refine ld_of _ hs3 rfl ?_
    simp (maxSteps := 2000000) only [ops_cons, vcOp, ev, look, put_mk, Nat.reduceEqDiff, ↓reduceIte, reduceCtorEq]
    refine gh_id ?_
    refine ops_sl (l := n) (h := p.ds.length) rfl hS rfl (fun d hd => by rw [hd, List.length_map]; rfl) hn (by simp) fun v63 hv1 hv2 => ?_
    rw [List.take_of_length_le (by simp)] at hv2
    simp (maxSteps := 2000000) only [ops_cons, vcOp, put_mk]
    refine call_ownm rfl rfl (Q := fun rs m' => ∃ v', rs = [.s v'] ∧ SlO m' v' 97 22 ((p.ds.drop n).map gDone)) (fun w' vs hv _ _ hm => ?_) fun rs mD _ hq1 hdD => ?_
    · obtain ⟨vs, rfl, _, hv⟩ := argsV_g hv
      obtain rfl := argsV_nil hv
      rw [← List.map_drop] at hv2
      exact cloneD_spec w' v63 _ (by simp; omega) m1 hm hv2
    obtain ⟨vo, rfl, hD⟩ := hq1
    have hdD : dis mD m1 := hdD
    simp (maxSteps := 2000000) only [retS, ops_cons, vcOp, ev, look, put_mk, Nat.reduceEqDiff, ↓reduceIte, reduceCtorEq, Nat.zero_add]
    obtain ⟨ov1, e1, mo, mr, hm1, hdm, hO, hb1, _, hmk⟩ := hM.list
    have hbm := uni_r hdm hb1
    rw [← hm1] at hbm
    have hbd := uni_r hdD hbm.1
    refine st_of rfl _ e1 ⟨hbd.1, by simp⟩ ?_
    simp (maxSteps := 2000000) only [ops_cons, vcOp, ev, look, put_mk, put_mk0, Nat.reduceEqDiff, ↓reduceIte, Nat.zero_add, ptr]
    refine st_of rfl _ e1 ⟨upd_self _ _ _, by simp [writeAt, GV.flat]⟩ ?_
    simp (maxSteps := 2000000) only [vc_ret, vc_seq, vc_rg, thenQ_n, kKeep_eq, finQ_r, segs_nil, segs_n, ops_nil, ops_cons, vcOp, ev, look, put_mk, put_mk0, keep_mk, keepL, Value.oneCell', cond_true, ↓reduceIte]
    rw [upd_upd2, uni_upd hbd.2, hm1, uni_upd hbm.2]
    have hdr : dis mD mr := by rw [hm1] at hdD; exact (dis_of_uni_r hdD).2
    have hcn : cutA p.ds t = n := cutA_of hn hj hst
    have hM2 := hmk (ds' := p.ds.drop n) (fr' := t) (red' := p.red) hD hdr
    refine fin_m (uni mD (mr.upd b (logC L L1 t vo p.red e1))) rfl ?_ ⟨fun h => by omega, fun _ => ⟨rfl, fun i1 => ⟨L1, hL1, ?_⟩⟩⟩
    · exact sub_skip (dis_upd hdm hbm.2)
    · simp only [PL.cut, hcn]
      exact hM2.reI i1
  rcases Nat.lt_or_ge n p.ds.length with hlt | hge
  · obtain ⟨a, c, hov⟩ := slr_len hS
    subst hov
    obtain ⟨bo, oo, rfl, _, _, hsp⟩ := SlR.spot hS (by simp; omega)
    have hel := hsp (C := ⟨Tryz.prog, 70, w, m⟩) (ph := []) (m := m1) (KN.mem (by simp)) n (gDone (p.ds.getD n zDone)) (by rw [List.getElem?_map, List.getD_eq_getElem?_getD, List.getElem?_eq_getElem hlt]; rfl)
    simp only [List.length_map] at hs1
    simp (maxSteps := 2000000) only [c_oplog_Log_Cut_L0, vc_seq, vc_rg, segs_n, ops_cons, vcOp, ev, look, put_mk, Nat.reduceEqDiff, ↓reduceIte, reduceCtorEq, Nat.zero_add]
    have hs3 := hs1.2.2.2.1
    refine ld_of _ hs3 rfl ?_
    simp (maxSteps := 2000000) only [vc_exit, vc_ite, thenQ_n, thenQ_e, kKeep_eq, segs_nil, segs_n, segs_g, ops_nil, ops_cons, vcOp, RO.isGh, skip_mk, skipL, ev, look, put_mk, keep_mk, keepL, binV, binC, Value.oneCell', cond_true, cond_false, Nat.reduceEqDiff, ↓reduceIte, reduceCtorEq, Nat.zero_add, Bool.true_and, Bool.not_true, true_and, decide_eq_true_eq, decide_eq_false_iff_not, ↓br_ft, br_t]
    refine ⟨fun _ => ?_, fun h => by omega⟩
    refine ld_of _ hs3 rfl ?_
    simp (maxSteps := 2000000) only [ops_cons, vcOp, ev, look, put_mk, Nat.reduceEqDiff, ↓reduceIte, reduceCtorEq, Nat.add_zero, Int.toNat_natCast]
    refine ⟨⟨by omega, by omega⟩, ?_⟩
    refine ld_of _ (seen_fst (seen_fst (seen_fst hel))) rfl ?_
    simp (maxSteps := 2000000) only [vc_skip, vc_exit, vc_seq, vc_block, vc_rgq, vc_ite, thenQ_n, thenQ_e, kKeep_eq, segs_nil, segs_n, ops_nil, ops_cons, qsegs_n, qops_cons, vcqOp, vcOp, isRd, ev, look, put_mk, keep_mk, keepL, binV, binC, Value.oneCell', cond_true, Nat.reduceEqDiff, ↓reduceIte, reduceCtorEq, Nat.zero_add, Bool.true_and, true_and, decide_eq_true_eq, decide_eq_false_iff_not, ↓br_tt, br_t]
    refine ⟨fun hle => ?_, fun hle => ?_⟩
    · have hs2 := hs1.2.1
      rw [hL1] at hs2
      refine ld_of _ hs2 rfl ?_
      simp (maxSteps := 2000000) only [ptr, qops_cons, vcqOp, vcOp, isRd, ev, look, put_mk, ↓reduceIte, reduceCtorEq, Nat.zero_add, Bool.true_and, true_and, ptr]
      refine ld_of _ hs3 rfl ?_
      simp (maxSteps := 2000000) only [qops_cons, vcqOp, vcOp, isRd, ev, look, put_mk, Nat.reduceEqDiff, ↓reduceIte, reduceCtorEq, Nat.add_zero, Bool.true_and, true_and, Int.toNat_natCast]
      refine ⟨⟨by omega, by omega⟩, ?_⟩
      refine ld_of _ (seen_fst hel) (gOp_fits _) ?_
      simp (maxSteps := 2000000) only [segs_n, ops_cons, qsegs_nil, qops_nil, vcOp, put_mk]
      obtain ⟨d, hd⟩ : ∃ d, p.ds.getD n zDone = d := ⟨_, rfl⟩
      have hdm : d ∈ p.ds := hd ▸ getD_in hlt zDone
      rw [hd] at hle ⊢
      have hop := hg.ops d hdm
      obtain ⟨mB1, mr1, hm1, hdm1, hB1, hback⟩ := hM.base
      have hok : (ideal p.B ((p.ds.take n).map (·.op))).ok q := by
        have := ideal_ok (l := (p.ds.take n).map (·.op)) hg.bok fun op h => by
          obtain ⟨x, hx, rfl⟩ := List.mem_map.1 h
          exact hg.ops x (List.mem_of_mem_take hx)
        refine this.up ?_
        have := hg.many
        simp only [List.length_map, List.length_take]
        omega
      refine call_with mB1 mr1 (dOk_spec rfl) rfl hm1 hdm1 (Q := fun rs m' => (∃ a c, rs = [a, c]) ∧ ∃ L2, L2 .t = Lb .t ∧ TM m' L2 ((ideal p.B ((p.ds.take n).map (·.op))).step d.op)) (fun w' vs hv _ _ => ?_) fun rs mB' _ hq1 hdB => ?_
      · obtain ⟨vs, rfl, _, hv⟩ := argsV_g hv
        obtain ⟨vs, rfl, _, hv⟩ := argsV_g hv
        obtain rfl := argsV_nil hv
        have := (Do_spec w' mB1 L1 (ideal p.B ((p.ds.take n).map (·.op))) d.op hop.2 (ok_fits hok (by omega)) hB1).mono fun rs m' h => (show (∃ a c, rs = [a, c]) ∧ ∃ L2, L2 .t = L1 .t ∧ TM m' L2 ((ideal p.B ((p.ds.take n).map (·.op))).step d.op) from by
          cases hmay : mayA (ideal p.B ((p.ds.take n).map (·.op))) d.op with
          | false => exact ⟨⟨_, _, (h.1 hmay).1⟩, L1, rfl, by rw [step_no hmay]; exact (h.1 hmay).2⟩
          | true =>
            obtain ⟨L2, e1, e2, e3, e4⟩ := h.2 hmay
            exact ⟨⟨_, _, e3⟩, L2, e1, by rw [step_yes hmay]; exact e4⟩)
        rw [hL1] at this
        exact this
      obtain ⟨⟨ra, rc, rfl⟩, L2, h21, hT2⟩ := hq1
      simp (maxSteps := 2000000) only [retS, vc_rg, thenQ_n, blockQ_n, kKeep_eq, segs_nil, segs_n, ops_nil, ops_cons, vcOp, ev, look, put_mk, keep_mk, keepL, binV, binC, Value.oneCell', cond_true, Nat.reduceEqDiff, ↓reduceIte, reduceCtorEq, Bool.true_and, true_and]
      subst hQ; simp only [loopQ_n]; refine ⟨(n + 1, L2, uni mB' mr1), ?_, ?_, ge_of ?_ ?_ rfl rfl rfl⟩
      · refine ⟨by simp only; omega, fun j hj' => ?_, h21, ?_⟩
        · rcases Nat.lt_succ_iff_lt_or_eq.1 hj' with h4 | rfl
          · exact hj j h4
          · rw [hd]; exact hle
        · simp only
          have := hback (h21.trans hL1.symm) hT2 hdB
          rw [take_at hlt zDone, hd, List.map_append, List.map_cons, List.map_nil, ideal_snoc]
          exact this
      · simp only; omega
      · simp only [frIn, look, Nat.reduceEqDiff, ↓reduceIte, reduceCtorEq, Bool.and_true, Bool.true_and, true_and, and_true]
        rw [wrap_n (by omega)]
        try simp
      · simp [pvIn, look]
    · exact stop (fun _ => hle) _ (ge_of (by simp [frIn, look]) (by simp [pvIn, look]) rfl rfl rfl)
  · obtain ⟨a, c, hov⟩ := slr_len hS
    subst hov
    simp only [List.length_map] at hs1
    simp (maxSteps := 2000000) only [c_oplog_Log_Cut_L0, vc_seq, vc_rg, segs_n, ops_cons, vcOp, ev, look, put_mk, Nat.reduceEqDiff, ↓reduceIte, reduceCtorEq, Nat.zero_add]
    refine ld_of _ hs1.2.2.2.1 rfl ?_
    simp (maxSteps := 2000000) only [vc_exit, vc_ite, thenQ_n, thenQ_e, kKeep_eq, segs_nil, segs_n, segs_g, ops_nil, ops_cons, vcOp, RO.isGh, skip_mk, skipL, ev, look, put_mk, keep_mk, keepL, binV, binC, Value.oneCell', cond_true, cond_false, Nat.reduceEqDiff, ↓reduceIte, reduceCtorEq, Nat.zero_add, Bool.true_and, Bool.not_true, true_and, decide_eq_true_eq, decide_eq_false_iff_not, ↓br_ft, br_t]
    refine ⟨fun h => by omega, fun _ => ?_⟩
    exact stop (fun h => by omega) _ (ge_of (by simp [frIn, look]) (by simp [pvIn, look]) rfl rfl rfl)
end Go.Proofs.YtmjiojflncffeaaGreat.Vc

/- A log that operations come to: in steps; what the law asks of every log first. -/
set_option linter.unusedVariables false
set_option linter.unusedSimpArgs false
set_option maxRecDepth 100000
namespace Go.Proofs.YtmjiojflncffeaaGreat.Vc
open Go Go.Proofs Go.Proofs.YtmjiojflncffeaaGreat Go.ChangeShapes Go.WideShapes Go.ChangeAt

/-- How many may have been done, where so many are there. -/
def tri (n : Nat) : Nat := n * (n + 1) / 2
theorem tri_step (n c : Nat) (hc : 1 ≤ c) : tri n + n + c ≤ tri (n + c) := by
  unfold tri
  obtain ⟨d, rfl⟩ : ∃ d, c = d + 1 := ⟨c - 1, by omega⟩
  have e : (n + (d + 1)) * (n + (d + 1) + 1) = n * (n + 1) + 2 * (n + (d + 1)) + (2 * (n * d) + d * (d + 1)) := by
    simp only [Nat.mul_add, Nat.add_mul, Nat.mul_one, Nat.one_mul]
    rw [Nat.mul_comm d n]
    omega
  have h1 : (n + (d + 1)) * (n + (d + 1) + 1) / 2 ≥ (n * (n + 1) + 2 * (n + (d + 1))) / 2 := Nat.div_le_div_right (by omega)
  have h2 : (n * (n + 1) + 2 * (n + (d + 1))) / 2 = n * (n + 1) / 2 + (n + (d + 1)) := by omega
  omega
theorem tri_le {n : Nat} (h : n ≤ 1200000) : tri n ≤ 720000600000 := by
  unfold tri
  have : n * (n + 1) ≤ 1200000 * 1200001 := Nat.mul_le_mul h (by omega)
  omega
theorem PL.good.up {p : PL} {mk : Value} {kb q q' : Nat} (h : p.good mk kb q) (hq : q ≤ q') : p.good mk kb q' := ⟨h.fl.up hq, h.bok, h.bgood, by have := h.many; omega, h.ris, h.ops⟩

theorem ops_len {p p' : PL} {ops : List Op} {n : Int} (h : Added p ops p' n) : p'.ds.length = p.ds.length + ops.length := by
  have := h.perm.length_eq
  simpa using this
/-- A step: what Add answers, the measure with it. -/
def StepQ (b : Nat) (L Lb : Lay) (p : PL) (kb : Nat) (ops : List Op) (rs : List GV) (m' : PH) : Prop :=
  (lookE p.ds p.fr [] ops ≠ 0 → rs = [.s (.int .i64 0), .s (.int .i64 (lookE p.ds p.fr [] ops))] ∧ LogM m' b L Lb p) ∧
  (lookE p.ds p.fr [] ops = 0 → ∃ L' p' n, L' .t = L .t ∧ L' .mk = L .mk ∧ rs = [.s (.int .i64 n), .s (.int .i64 0)] ∧ LogM m' b L' Lb p' ∧ p'.good (ptr (L .mk)) kb (tri p'.ds.length) ∧ Added p ops p' n)
theorem step_spec (w : World) (m : PH) (b : Nat) (L Lb : Lay) (p : PL) (hL : LogM m b L Lb p) {kb : Nat} (hg : p.good (ptr (L .mk)) kb (tri p.ds.length)) (v : Value) (ops : List Op) (ho : ∀ op ∈ ops, OpIn op ∧ OpOk op) (h1 : 1 ≤ ops.length) (hS : SlR (but w m) v 8 (ops.map gOp)) (hfew : p.ds.length ≤ 1048576) (hsum : p.ds.length + ops.length ≤ 1200000) (hon : ops.length ≤ 1048576) :
    Spec Tryz.prog f_oplog_Log_Add [ptr b, v] m w (StepQ b L Lb p kb ops) := by
  have ht := tri_step p.ds.length ops.length h1
  have ht2 := tri_le hsum
  refine (add_spec w m b L Lb p hL hg v ops ⟨hon, ho⟩ hS (by omega) hfew).mono fun rs m' h => ⟨h.1, fun h0 => ?_⟩
  obtain ⟨L', p', n, e1, e2, e3, e4, e5, e6⟩ := h.2 h0
  exact ⟨L', p', n, e1, e2, e3, e4, e5.up (by rw [ops_len e6]; exact ht), e6⟩

/-- What is wrong with one operation. -/
theorem lookE_one (ds : List Done) (fr : Int) (op : Op) : lookE ds fr [] [op] = if checkE op ≠ 0 then checkE op else if op.stamp.time ≤ fr then 130 else if hasA ds op.k = true then 5 else 0 := by
  simp only [lookE, List.not_mem_nil, or_false]

def liveOp : Op := ⟨⟨1, 0⟩, 1, 24, 1, ⟨#[97]⟩, ⟨#[]⟩, ⟨#[]⟩⟩
theorem liveOp_in : OpIn liveOp ∧ OpOk liveOp := ⟨⟨by decide, by decide, by decide⟩, by decide, by decide⟩
theorem liveOp_check : checkE liveOp = 0 := by decide +kernel
theorem liveOp_may : mayA T0 liveOp = true := by decide +kernel
theorem liveOp_told : (nodesTold (T0.step liveOp)).length = 1 := by
  rw [step_yes liveOp_may]
  have hp : (nodesK (T0.does liveOp)).Perm [1, 2, 24] := List.mergeSort_perm _ _
  have hl := ((hp.filterMap fun n => ((T0.does liveOp).get n).map fun x => toldOf n x).filter TN.shown).length_eq
  show ((List.filterMap _ _).filter _).length = 1
  rw [hl]
  have h1 : (T0.does liveOp).get 1 = some ⟨0, ⟨#[]⟩, [], [24]⟩ := rfl
  have h2 : (T0.does liveOp).get 2 = some ⟨0, ⟨#[]⟩, [], []⟩ := rfl
  have h3 : (T0.does liveOp).get 24 = some ⟨1, ⟨#[97]⟩, [], []⟩ := rfl
  simp [h1, h2, h3, List.filterMap_cons, toldOf, TN.shown, attrsOf, attrKeys, sortB, topB, List.filter_cons]
/-- One operation, put to a log. -/
theorem one_split {w' : World} {m1 : PH} {b : Nat} {L Lb : Lay} {p : PL} (hL : LogM m1 b L Lb p) {kb : Nat} (hg : p.good (ptr (L .mk)) kb (tri p.ds.length)) (hfew : p.ds.length ≤ 1048576) {v' : Value} {op : Op} (ho : OpIn op ∧ OpOk op) (hs : SlR (but w' m1) v' 8 [gOp op]) :
    Spec Tryz.prog f_oplog_Log_Add [ptr b, v'] m1 w' (StepQ b L Lb p kb [op]) :=
  step_spec w' m1 b L Lb p hL hg v' [op] (by simpa using ho) (by simp) hs hfew (by simp; omega) (by simp)
theorem live13_spec (w : World) : Spec Tryz.prog f_law13_live [] PH.no w fun rs _ => rs = [.s (.bool true)] := by
  refine spec_val k_law13_live (Qf := fun rs => rs = [.s (.bool true)]) [] (by simp) (by simp [AV.ok]) ?_
  simp (maxSteps := 2000000) only [c_law13_live, vc_seq, vc_rg, thenQ_n, kKeep_eq, segs_nil, segs_n, ops_nil, ops_cons, vcOp, ev, put_mk, keep_mk, keepL, Value.oneCell', cond_true, initF, initP, gStamp_zero, gOp_zero]
  refine call_ownm rfl rfl (Q := fun rs m' => ∃ b L Lb, rs = [.s (ptr b)] ∧ LogM m' b L Lb PL.new) (fun w' vs hv hw _ _ => ?_) fun rs m0 _ hq _ => ?_
  · obtain rfl := argsV_nil hv
    exact logNew_spec w'
  obtain ⟨b, L, Lb, rfl, hL⟩ := hq
  simp (maxSteps := 2000000) only [retS, uni_no_r, vc_seq, vc_rg, thenQ_n, kKeep_eq, segs_nil, segs_n, ops_nil, ops_cons, vcOp, ev, look, put_mk, keep_mk, keepL, Value.oneCell', cond_true, ↓reduceIte, ptr]
  refine eq_of (eqLog b) ?_
  simp (maxSteps := 2000000) only [vc_skip, vc_seq, vc_rg, vc_ite, thenQ_n, kKeep_eq, segs_nil, segs_n, ops_nil, ops_cons, vcOp, ev, evL, gvL, look, updL, put_mk, keep_mk, keepL, GV.getT, GV.same, Value.oneCell', cond_true, Nat.reduceEqDiff, ↓reduceIte, Nat.zero_add, Bool.and_true, Bool.true_and, true_and, and_true, List.map_cons, List.map_nil, Option.map_some, szAll, List.length_cons, List.length_nil, ↓br_ft, Bool.bne_false, GV.bldT, GV.bldC, same_int, getT_nil, gStamp_same, gStamp_get0, gStamp_set0, gOp_sz, gOp_get0, gOp_set0, gOp_get1, gOp_set1, gOp_get2, gOp_set2, gOp_get3, gOp_set3, gOp_get4, gOp_set4]
  refine ⟨rfl, ⟨rfl, rfl, rfl, rfl, rfl⟩, ?_⟩
  refine call_split m0 PH.no rfl rfl (uni_no_r _).symm (dis_no_r _) (Q := StepQ b L Lb PL.new 0 [liveOp]) (fun w' vs hv _ _ _ => ?_) fun rs m1 _ hq _ => ?_
  · obtain ⟨vs, rfl, _, hv⟩ := argsB_g hv
    obtain ⟨v', vs, rfl, hs, hv⟩ := argsB_row (z := 8) (xs := [gOp liveOp]) rfl rfl hv
    obtain rfl := argsB_nil hv
    exact one_split hL (PL.new_good _) (by decide) liveOp_in hs
  have hlk : lookE PL.new.ds PL.new.fr [] [liveOp] = 0 := by rw [lookE_one, liveOp_check]; decide
  obtain ⟨L', p', n, hL1, hL2, rfl, hM, hg, hA⟩ := hq.2 hlk
  simp (maxSteps := 2000000) only [retS, List.getElem?_cons_succ, List.getElem?_cons_zero, uni_no_r, vc_ret, vc_seq, vc_rg, thenQ_n, kKeep_eq, segs_nil, segs_n, segs_g, ops_nil, ops_cons, vcOp, RO.isGh, skip_mk, skipL, ev, look, put_mk, keep_mk, keepL, binV, binC, Value.oneCell', cond_true, cond_false, Nat.reduceEqDiff, ↓reduceIte, Bool.true_and, Bool.not_true, BEq.rfl, true_and, finW_r, resL, resOne, ↓br_tt, ↓br_ft, br_t]
  have hlen : p'.ds.length = 1 := ops_len hA
  obtain ⟨d, hd⟩ : ∃ d, p'.ds = [d] := List.length_eq_one_iff.1 hlen
  have hop : d.op = liveOp := by
    have := hA.perm
    rw [hd] at this
    have := this.mem_iff (a := d.op)
    simpa [PL.new] using this
  have htk : d.taken = true := by
    have hh := hg.fl.hist
    rw [hd] at hh
    have := LHist.taken (ds := []) hh
    rw [hop, hA.B] at this
    rw [this]
    exact liveOp_may
  have hn : n = 1 := by
    rw [hA.n, hd]
    have : d.k = liveOp.k := by show d.op.k = _; rw [hop]
    simp [List.filter_cons, htk, this]
  subst hn
  simp (maxSteps := 2000000) only [Bool.and_true, BEq.rfl, and_true, true_imp_iff, false_imp_iff, Bool.true_eq_false]
  refine call_ism _ [.s (.int .i64 1)] rfl rfl (fun w' vs hv _ _ hm => ?_) ?_
  · obtain ⟨vs, rfl, _, hv⟩ := argsV_g hv
    obtain rfl := argsV_nil hv
    have := logLen_spec hm hM
    rw [hlen] at this
    exact this
  simp (maxSteps := 2000000) only [retS, segs_n, segs_g, ops_nil, ops_cons, vcOp, ev, look, put_mk, binV, binC, Value.oneCell', cond_true, Nat.reduceEqDiff, ↓reduceIte, Bool.true_and, BEq.rfl, true_and, ↓br_tt]
  have hfr : p'.fr = 0 := hA.fr
  refine call_all rfl rfl (Q := fun rs m' => rs = [.s (.int .i64 0)] ∧ ∀ i1, ∃ Lb', Lb' .t = Lb .t ∧ LogM m' b L' Lb' (p'.cut 1 i1)) (fun w' vs hv _ _ => ?_) fun rs m2 _ hq2 => ?_
  · obtain ⟨vs, rfl, _, hv⟩ := argsV_g hv
    obtain ⟨vs, rfl, _, hv⟩ := argsV_g hv
    obtain rfl := argsV_nil hv
    exact (cut_spec w' m1 b L' Lb p' hM hg (by rw [hlen]; decide) (by omega) 1).mono fun rs m' h => h.2 (by rw [hfr]; decide)
  obtain ⟨rfl, hcut⟩ := hq2
  obtain ⟨i1, hgc⟩ := hg.cut 1
  obtain ⟨Lb', _, hMc⟩ := hcut i1
  have hca : cutA p'.ds 1 = 1 := by
    rw [hd]
    have : d.op.stamp.time ≤ 1 := by rw [hop]; decide
    simp [cutA, List.takeWhile_cons, this]
  have hds : (p'.cut 1 i1).ds = [] := by
    show p'.ds.drop (cutA p'.ds 1) = []
    rw [hca, hd]; rfl
  have hB : (p'.cut 1 i1).B = T0.step liveOp := by
    show ideal p'.B ((p'.ds.take (cutA p'.ds 1)).map (·.op)) = _
    rw [hca, hd, hA.B]
    show ideal T0 [d.op] = _
    rw [hop]; rfl
  simp (maxSteps := 2000000) only [retS, segs_n, segs_g, ops_nil, ops_cons, vcOp, ev, look, put_mk, binV, binC, Value.oneCell', cond_true, Nat.reduceEqDiff, ↓reduceIte, Bool.true_and, BEq.rfl, true_and, ↓br_tt]
  refine call_ism _ [.s (.int .i64 0)] rfl rfl (fun w' vs hv _ _ hm => ?_) ?_
  · obtain ⟨vs, rfl, _, hv⟩ := argsV_g hv
    obtain rfl := argsV_nil hv
    have := logLen_spec hm hMc
    rw [hds] at this
    exact this
  simp (maxSteps := 2000000) only [retS, segs_n, segs_g, ops_nil, ops_cons, vcOp, ev, look, put_mk, binV, binC, Value.oneCell', cond_true, Nat.reduceEqDiff, ↓reduceIte, Bool.true_and, BEq.rfl, true_and, ↓br_tt]
  refine call_frzm rfl rfl (Q := fun rs m' => ∃ v ts, rs = [.s v] ∧ SlR m' v 4 (ts.map gTreeNode) ∧ TsOk m' ts (nodesTold (p'.cut 1 i1).B)) (fun w' vs hv _ _ hm => ?_) fun rs m3 _ hq3 => ?_
  · obtain ⟨vs, rfl, _, hv⟩ := argsV_g hv
    obtain rfl := argsV_nil hv
    exact logBase_spec hm hMc hgc (by rw [hlen]; decide)
  obtain ⟨v, ts, rfl, hs, hts⟩ := hq3
  rw [hB] at hts
  have htl := hts.len
  rw [liveOp_told] at htl
  obtain ⟨a, c, rfl⟩ := slr_len hs
  simp (maxSteps := 2000000) only [retS, List.length_map, htl, vc_ret, thenQ_n, kKeep_eq, segs_nil, segs_n, ops_nil, ops_cons, vcOp, ev, look, put_mk, keep_mk, keepL, binV, binC, Value.oneCell', cond_true, Nat.reduceEqDiff, ↓reduceIte, Bool.true_and, true_and, finW_r, resL, resOne, ↓br_tt, List.length_map]
  rfl
/-- Operations that came in: what is asked of them. -/
theorem open_OpsIn {H : Type} {enc : TypeId × Value → H} {W : World} {base n : Nat} {v : Value} (h : RdB enc Tryz.prog W 22 v n) (hv : Value.okWide Tryz.prog W .any base 22 v) : ∃ l : List Op, SlR W.ph v 8 (l.map gOp) ∧ l.length ≤ n ∧ ∀ op ∈ l, OpIn op ∧ OpOk op := by
  have hd := rdv_slice (e := 26) (by kernel_rfl) h.v hv
  obtain ⟨l, h1, _, h3⟩ := rd_slice (t := 22) (e := 26) (n0 := 9) (ks := kOp) (g := fun q => gOp (Op.ofRaw q 0)) (by kernel_rfl) (by kernel_rfl) (by kernel_rfl) (by rw [cells_Op]; omega) (fun q => gOp_flat q 0) (fun q _ => gOp_ok _) (fun q => by rw [gOp_sz, cells_Op]) hd
  rw [cells_Op] at h1
  refine ⟨l.map fun q => Op.ofRaw q 0, by rw [List.map_map]; exact h1, ?_, ?_⟩
  · obtain ⟨fuel, x, hx, _, hn⟩ := h
    obtain ⟨_, h1 | ⟨a, c, h1, _⟩⟩ := h1
    · have : l = [] := by simpa using h1.2
      simp [this]
    · subst h1
      have hx' : DataW.trod enc Tryz.prog W 0 (fun _ => true) true fuel 22 [.slice (some a) (l.map fun q => gOp (Op.ofRaw q 0)).length c] = some x := hx
      rcases Go.Deep.open_slice (e := 26) (by kernel_rfl) hx' with ⟨hv', rfl⟩ | ⟨a', len, cap, m, n', D, Pl, hv', _, hlc, _, hm, rfl, hel⟩
      · simp at hv'
      · simp only [List.cons.injEq, Value.slice.injEq, and_true, List.length_map] at hv'
        have h5 := bulk_len ((List.range len).map D)
        rw [List.length_map, List.length_range] at h5
        simp only [Rows.uptoBulk] at hn
        rw [List.length_map]
        omega
  · intro op hop
    obtain ⟨q, hq, rfl⟩ := List.mem_map.1 hop
    have hf := h3 q hq
    have i3 := hf.int (j := 3) (k := .i64) rfl
    have i4 := hf.int (j := 4) (k := .i64) rfl
    have s5 := hf.str (j := 5) rfl
    have em : IntKind.i64.max = 9223372036854775807 := by decide
    refine ⟨⟨?_, ?_, Nat.le_trans s5 (by decide)⟩, ?_, Nat.le_trans s5 (by decide)⟩
    · show q.x 3 < _
      have := i3.2; rw [em] at this; omega
    · show q.x 4 < _
      have := i4.2; rw [em] at this; omega
    · show (decide (IntKind.i64.min ≤ q.x 3) && decide (q.x 3 ≤ IntKind.i64.max)) = true
      rw [Bool.and_eq_true]
      exact ⟨decide_eq_true i3.1, decide_eq_true i3.2⟩
end Go.Proofs.YtmjiojflncffeaaGreat.Vc

/- The code of some functions of the program, its types resolved: printed by a program of this claim. -/
set_option linter.unusedVariables false
set_option maxRecDepth 100000
namespace Go.Proofs.YtmjiojflncffeaaGreat.Vc
open Go Go.Proofs

end Go.Proofs.YtmjiojflncffeaaGreat.Vc

/- OplogRedoes and OplogWould, the walks. -/
set_option linter.unusedVariables false
set_option linter.unusedSimpArgs false
set_option maxRecDepth 100000
namespace Go.Proofs.YtmjiojflncffeaaGreat.Vc
open Go Go.Proofs

/-- No operation is behind this stamp. -/
def Top (p : PL) (s : Stamp) : Prop := ∀ d ∈ p.ds, ¬ ltK s.k d.k
theorem checkE_well {op : Op} (h : checkE op = 0) : Well op := fun hw => by
  rw [checkE_a hw] at h; cases h
theorem checkE_time {op : Op} (h : checkE op = 0) : 1 ≤ op.stamp.time := by
  have := checkE_well h
  unfold Well at this
  have hc : CheckP op.stamp := Classical.byContradiction fun hn => this (.inl hn)
  exact hc.1
/-- A log on its way through the law. -/
structure Way1 (b : Nat) (m : PH) (L Lb : Lay) (p : PL) (s : Stamp) (i : Nat) : Prop where
  M : LogM m b L Lb p
  good : p.good (ptr (L .mk)) 0 (tri p.ds.length)
  few : p.ds.length ≤ i
  fr : p.fr = 0
  top : Top p s
end Go.Proofs.YtmjiojflncffeaaGreat.Vc

/- The code of some functions of the program, its types resolved: printed by a program of this claim. -/
set_option linter.unusedVariables false
set_option maxRecDepth 100000
namespace Go.Proofs.YtmjiojflncffeaaGreat.Vc
open Go Go.Proofs

end Go.Proofs.YtmjiojflncffeaaGreat.Vc

/- OplogOrders, the walk. -/
set_option linter.unusedVariables false
set_option linter.unusedSimpArgs false
set_option maxRecDepth 100000
namespace Go.Proofs.YtmjiojflncffeaaGreat.Vc
open Go Go.Proofs

/-- What was accepted. -/
def Goods (l : List Op) : Prop := ∀ op ∈ l, (OpIn op ∧ OpOk op) ∧ checkE op = 0
/-- A log that has these, in its order. -/
structure Way2 (b : Nat) (m : PH) (L Lb : Lay) (p : PL) (l : List Op) : Prop where
  M : LogM m b L Lb p
  good : p.good (ptr (L .mk)) 0 (tri p.ds.length)
  fr : p.fr = 0
  B : p.B = T0
  perm : (p.ds.map (·.op)).Perm l
theorem Way2.len {b : Nat} {m : PH} {L Lb : Lay} {p : PL} {l : List Op} (h : Way2 b m L Lb p l) : p.ds.length = l.length := by
  have := h.perm.length_eq
  simpa using this
theorem Way2.rising {b : Nat} {m : PH} {L Lb : Lay} {p : PL} {l : List Op} (h : Way2 b m L Lb p l) : Rising ((p.ds.map (·.op)).map Op.k) := by
  rw [List.map_map]; exact h.good.ris
theorem Way2.nod {b : Nat} {m : PH} {L Lb : Lay} {p : PL} {l : List Op} (h : Way2 b m L Lb p l) : (l.map Op.k).Nodup := by
  have h1 : ((p.ds.map (·.op)).map Op.k).Nodup := h.rising.imp fun h e => by rw [e] at h; exact ltK_irrefl _ h
  exact (h.perm.map _).nodup_iff.1 h1
/-- Two logs of the same operations have trees of one look. -/
theorem Way2.same {b b' : Nat} {m m' : PH} {L Lb L' Lb' : Lay} {p p' : PL} {l l' : List Op} (h : Way2 b m L Lb p l) (h' : Way2 b' m' L' Lb' p' l') (hl : l.Perm l') : p.T.view = p'.T.view := by
  have e : p.ds.map (·.op) = p'.ds.map (·.op) := Rising.uniq (h.perm.trans (hl.trans h'.perm.symm)) h.rising h'.rising
  rw [h.good.fl.view, h'.good.fl.view, e, h.B, h'.B]
theorem Way2.new {b : Nat} {m : PH} {L Lb : Lay} (h : LogM m b L Lb PL.new) : Way2 b m L Lb PL.new [] := ⟨h, (PL.new_good _).up (Nat.zero_le _), rfl, rfl, List.Perm.refl _⟩
/-- What comes, put to it. -/
theorem Way2.add {b : Nat} {m m1 : PH} {L Lb L' : Lay} {p p' : PL} {l ops : List Op} {n : Int} (h : Way2 b m L Lb p l) (hM : LogM m1 b L' Lb p') (hL : L' .mk = L .mk) (hg : p'.good (ptr (L .mk)) 0 (tri p'.ds.length)) (hA : Added p ops p' n) : Way2 b m1 L' Lb p' (l ++ ops) :=
  ⟨hM, by rw [hL]; exact hg, hA.fr.trans h.fr, hA.B.trans h.B, hA.perm.trans (h.perm.append_right _)⟩
theorem looked_one {ds : List Done} {fr : Int} {op : Op} (h : lookE ds fr [] [op] = 0) : checkE op = 0 := (looked h).check op (by simp)
/-- What is not there yet may be put there. -/
theorem Way2.may {b : Nat} {m : PH} {L Lb : Lay} {p : PL} {l ops : List Op} (h : Way2 b m L Lb p l) (ho : Goods ops) (hn : ((l ++ ops).map Op.k).Nodup) : lookE p.ds p.fr [] ops = 0 := by
  rw [List.map_append, List.nodup_append] at hn
  refine lookE_of ⟨fun op hop => (ho op hop).2, fun op hop => by rw [h.fr]; have := checkE_time (ho op hop).2; omega, fun op hop => ⟨fun hm => ?_, List.not_mem_nil⟩, hn.2.1⟩
  obtain ⟨d, hd, e⟩ := List.mem_map.1 hm
  have : d.op ∈ l := h.perm.mem_iff.1 (List.mem_map.2 ⟨d, hd, rfl⟩)
  exact hn.2.2 _ (List.mem_map.2 ⟨d.op, this, rfl⟩) _ (List.mem_map.2 ⟨op, hop, rfl⟩) e
end Go.Proofs.YtmjiojflncffeaaGreat.Vc

/-
  DERIVED: THE SHELF's CONTRACTS AT THIS DUMP, IN PLAIN WORDS (tools/lay-plain.mjs out of 'TryzShelf13w.lean', which tools/lay-shelf.mjs wrote): THE SAME DECLARATIONS UNDER THE SAME NAMES: 'import', 'namespace', 'open', 'def', 'theorem' AND NOTHING ELSE: no command of the shelf's: FOR A HAND-IN. Each laying: the table of numbers ('.._ren') and one theorem, a field a fact of the dump's own or the kernel's comparison; each contract: ONE APPLICATION.
-/
namespace Go.Proofs
open Go.Shelf
end Go.Proofs

/- maps.Clone at the tree's two map types: a new block with the old object. -/
set_option linter.unusedVariables false
set_option linter.unusedSimpArgs false
set_option maxRecDepth 100000
namespace Go.Proofs.YtmjiojflncffeaaGreat.Vc
open Go Go.Proofs Go.Shelf

end Go.Proofs.YtmjiojflncffeaaGreat.Vc

/- The code of some functions of the program, its types resolved: printed by a program of this claim. -/
set_option linter.unusedVariables false
set_option maxRecDepth 100000
namespace Go.Proofs.YtmjiojflncffeaaGreat.Vc
open Go Go.Proofs

end Go.Proofs.YtmjiojflncffeaaGreat.Vc

/- A tree, cloned: a node that is known is put to a tree. -/
set_option linter.unusedVariables false
set_option linter.unusedSimpArgs false
set_option maxRecDepth 100000
namespace Go.Proofs.YtmjiojflncffeaaGreat.Vc
open Go Go.Proofs

structure NodeM (m : PH) (b a k : Nat) (x : PN) : Prop where
  ba : b ≠ a
  bk : b ≠ k
  ak : a ≠ k
  node : ∃ e, m b = some (.cells #[.int .i64 x.parent, .string x.name, .map (some a), .map (some k)] e (0, 0))
  attrs : ∃ o, m a = some o ∧ MapI none o (rawA x.attrs)
  kids : ∃ o, m k = some o ∧ MapI (some .i64) o (rawK x.kids)
/-! ### The same nodes in another order -/
structure Cloned (T : PT) (l : List (Int × PN)) : Prop where
  perm : (l.map (·.1)).Perm (T.nodes.map (·.1))
  at' : ∀ n x, getA l n = some x → T.get n = some x
section
variable {T : PT} {l : List (Int × PN)}
theorem Cloned.get (h : Cloned T l) (n : Int) : PT.get ⟨l, [], 0⟩ n = T.get n := by
  show getA l n = getA T.nodes n
  cases hg : getA l n with
  | some x => exact (h.at' n x hg).symm
  | none => exact (getA_none.2 fun hm => getA_none.1 hg (h.perm.mem_iff.2 hm)).symm
theorem Cloned.view (h : Cloned T l) : PT.view ⟨l, [], 0⟩ = T.view := by
  funext n
  unfold PT.view
  rw [h.get]
theorem Cloned.ok (h : Cloned T l) {k : Nat} (hk : T.ok k) : PT.ok ⟨l, [], 0⟩ k := by
  have hl : l.length = T.nodes.length := by simpa using h.perm.length_eq
  refine ⟨h.perm.nodup_iff.2 hk.nod, ?_, Int.le_refl _, Int.natCast_nonneg k, Nat.zero_le _, fun n x hx => ?_, fun n x hx => ?_⟩
  · show l.length ≤ _
    rw [hl]; exact hk.many
  · rw [h.get] at hx; exact hk.keys n x hx
  · rw [h.get] at hx; exact hk.attrs n x hx
theorem Cloned.kids (h : Cloned T l) (hk : T.kidsOk) : PT.kidsOk ⟨l, [], 0⟩ := by
  refine ⟨fun n x hx => ?_, fun n x c hx => ?_⟩
  · rw [h.get] at hx; exact hk.nod n x hx
  · rw [h.get] at hx
    rw [hk.mem n x c hx, h.get]
end

theorem uni_rotC {a b c : PH} (h : dis a b) : uni a (uni b c) = uni b (uni a c) := by rw [← uni_assoc, uni_comm h, uni_assoc]
theorem one_at (b : Nat) (o : Obj) : one b o b = some o := by simp [one]
end Go.Proofs.YtmjiojflncffeaaGreat.Vc

/- The code of some functions of the program, its types resolved: printed by a program of this claim. -/
set_option linter.unusedVariables false
set_option maxRecDepth 100000
namespace Go.Proofs.YtmjiojflncffeaaGreat.Vc
open Go Go.Proofs

abbrev f_law13_OplogMerges : Nat := 8
noncomputable def c_law13_OplogMerges_W0 : Code := ((((Tryz.f8.body.map rawsC).getD [])[0]?).getD .skip)
noncomputable def c_law13_OplogMerges_W1 : Code := ((((Tryz.f8.body.map rawsC).getD [])[1]?).getD .skip)
noncomputable def c_law13_OplogMerges_L0 : Cd :=
 (.seq (.rg [⟨none, [(some 64, .bin .lss (.t 63) (.t 62))]⟩] [5, 6, 7, 9, 61, 62, 63, 64])
 (.seq (.ite (.t 64)
 .skip
 (.exit 4))
 (.seq (.block 5 (.seq (.rg [⟨none, [(some 65, .idxS (.t 61) (.t 63) 8), (some 66, .ld (.t 65) 8 true), (some 14, .new 26 (.c (.c (.s (.int .i64 0)) (.c (.s (.int .i64 0)) .u)) (.c (.s (.int .i64 0)) (.c (.s (.int .i64 0)) (.c (.s (.int .i64 0)) (.c (.s (.string ⟨#[]⟩)) (.c (.s (.string ⟨#[]⟩)) (.c (.s (.string ⟨#[]⟩)) .u)))))))), (none, .st (.t 14) (.t 66) 8)]⟩] [5, 6, 7, 9, 14, 61, 62, 63])
 (.seq (.rg [⟨none, [(some 68, .mv (.t 5)), (some 69, .ld (.t 14) 8 true), (some 70, .bldS 26 8 (.c (.c (.s (.int .i64 0)) (.c (.s (.int .i64 0)) .u)) (.c (.s (.int .i64 0)) (.c (.s (.int .i64 0)) (.c (.s (.int .i64 0)) (.c (.s (.string ⟨#[]⟩)) (.c (.s (.string ⟨#[]⟩)) (.c (.s (.string ⟨#[]⟩)) .u))))))) [(.t 69)]), (some 71, .call 14 [(.t 68), (.t 70)]), (some 67, .mv (.t 71)), (some 72, .ext (.t 67) 0), (some 73, .ext (.t 67) 1), (some 15, .mv (.t 72)), (some 16, .mv (.t 73))]⟩] [5, 6, 7, 9, 16, 61, 62, 63])
 (.seq (.rg [⟨none, [(some 74, .mv (.t 16)), (some 75, .bin .neq (.t 74) (.c (.int .i64 0))), (some 76, .mv (.t 75))]⟩, ⟨some (76, true), [(some 77, .mv (.t 16)), (some 78, .bin .neq (.t 77) (.c (.int .i64 5)))]⟩, ⟨none, [(some 79, .pick (.t 76) (.t 78) (.c (.bool false)))]⟩] [5, 6, 7, 9, 61, 62, 63, 79])
 (.ite (.t 79)
 (.seq (.rg [⟨none, [(some 4, .mv (.c (.bool false)))]⟩] [4])
 .ret)
 .skip)))))
 (.rg [⟨none, [(some 80, .bin .add (.t 63) (.c (.int .i64 1))), (some 63, .mv (.t 80))]⟩] [5, 6, 7, 9, 61, 62, 63]))))
noncomputable def c_law13_OplogMerges_L1 : Cd :=
 (.seq (.rg [⟨none, [(some 84, .bin .lss (.t 83) (.t 82))]⟩] [5, 6, 7, 81, 82, 83, 84])
 (.seq (.ite (.t 84)
 .skip
 (.exit 6))
 (.seq (.block 7 (.seq (.rg [⟨none, [(some 85, .idxS (.t 81) (.t 83) 8), (some 86, .ld (.t 85) 8 true), (some 18, .new 26 (.c (.c (.s (.int .i64 0)) (.c (.s (.int .i64 0)) .u)) (.c (.s (.int .i64 0)) (.c (.s (.int .i64 0)) (.c (.s (.int .i64 0)) (.c (.s (.string ⟨#[]⟩)) (.c (.s (.string ⟨#[]⟩)) (.c (.s (.string ⟨#[]⟩)) .u)))))))), (none, .st (.t 18) (.t 86) 8)]⟩] [5, 6, 7, 18, 81, 82, 83])
 (.seq (.rg [⟨none, [(some 88, .mv (.t 6)), (some 89, .ld (.t 18) 8 true), (some 90, .bldS 26 8 (.c (.c (.s (.int .i64 0)) (.c (.s (.int .i64 0)) .u)) (.c (.s (.int .i64 0)) (.c (.s (.int .i64 0)) (.c (.s (.int .i64 0)) (.c (.s (.string ⟨#[]⟩)) (.c (.s (.string ⟨#[]⟩)) (.c (.s (.string ⟨#[]⟩)) .u))))))) [(.t 89)]), (some 91, .call 14 [(.t 88), (.t 90)]), (some 87, .mv (.t 91)), (some 92, .ext (.t 87) 0), (some 93, .ext (.t 87) 1), (some 19, .mv (.t 92)), (some 20, .mv (.t 93))]⟩] [5, 6, 7, 20, 81, 82, 83])
 (.seq (.rg [⟨none, [(some 94, .mv (.t 20)), (some 95, .bin .neq (.t 94) (.c (.int .i64 0))), (some 96, .mv (.t 95))]⟩, ⟨some (96, true), [(some 97, .mv (.t 20)), (some 98, .bin .neq (.t 97) (.c (.int .i64 5)))]⟩, ⟨none, [(some 99, .pick (.t 96) (.t 98) (.c (.bool false)))]⟩] [5, 6, 7, 81, 82, 83, 99])
 (.ite (.t 99)
 (.seq (.rg [⟨none, [(some 4, .mv (.c (.bool false)))]⟩] [4])
 .ret)
 .skip)))))
 (.rg [⟨none, [(some 100, .bin .add (.t 83) (.c (.int .i64 1))), (some 83, .mv (.t 100))]⟩] [5, 6, 7, 81, 82, 83]))))
noncomputable def c_law13_OplogMerges : Cd :=
 (.seq (.rg [⟨none, [(some 4, .mv (.c (.bool false)))]⟩] [0, 1])
 (.seq (.rg [⟨none, [(some 23, .call 12 []), (some 24, .call 12 []), (some 5, .mv (.t 23)), (some 6, .mv (.t 24))]⟩] [0, 1, 5, 6])
 (.seq (.seq (.rg [⟨none, [(some 25, .mv (.t 5)), (some 26, .eqA false 27 (.t 25) (.c (.pointer none))), (some 27, .mv (.t 26))]⟩, ⟨some (27, false), [(some 28, .mv (.t 6)), (some 29, .eqA false 27 (.t 28) (.c (.pointer none)))]⟩, ⟨none, [(some 30, .pick (.t 27) (.c (.bool true)) (.t 29)), (some 31, .mv (.t 30))]⟩, ⟨some (31, false), [(some 32, .call 13 []), (some 33, .un .not (.t 32))]⟩, ⟨none, [(some 34, .pick (.t 31) (.c (.bool true)) (.t 33))]⟩] [0, 1, 5, 6, 34])
 (.ite (.t 34)
 (.seq (.rg [⟨none, [(some 4, .mv (.c (.bool false)))]⟩] [4])
 .ret)
 .skip))
 (.seq (.rg [⟨none, [(some 35, .mkm), (some 7, .new 58 (.s (.map none))), (none, .st (.t 7) (.t 35) 1)]⟩] [0, 1, 5, 6, 7])
 (.seq (.rg [⟨none, [(none, .gh), (some 36, .mkf 25 [(.t 7)]), (some 8, .mv (.t 36))]⟩] [0, 1, 5, 6, 7, 8])
 (.seq (.rg [⟨none, [(some 37, .mv (.t 8)), (some 38, .mv (.t 5)), (some 39, .mv (.t 0)), (some 40, .callV (.t 37) [(.t 38), (.t 39)])]⟩] [1, 5, 6, 7, 8])
 (.seq (.rg [⟨none, [(some 41, .mv (.t 8)), (some 42, .mv (.t 6)), (some 43, .mv (.t 1)), (some 44, .callV (.t 41) [(.t 42), (.t 43)])]⟩] [5, 6, 7])
 (.seq (.rg [⟨none, [(some 9, .new 22 (.s (.slice none 0 0))), (some 10, .new 22 (.s (.slice none 0 0)))]⟩] [5, 6, 7, 9, 10])
 (.seq (.seq (.rg [⟨none, [(none, .gh), (some 45, .mv (.t 5)), (some 46, .call 24 [(.t 45)])]⟩] [5, 6, 7, 9, 10, 46])
 (.block 0 (.raw c_law13_OplogMerges_W0)))
 (.seq (.seq (.rg [⟨none, [(some 53, .mv (.t 6)), (some 54, .call 24 [(.t 53)])]⟩] [5, 6, 7, 9, 10, 54])
 (.block 2 (.raw c_law13_OplogMerges_W1)))
 (.seq (.seq (.rg [⟨none, [(none, .gh), (some 61, .ld (.t 10) 1 false), (some 62, .len (.t 61)), (some 63, .mv (.c (.int .i64 0)))]⟩] [5, 6, 7, 9, 61, 62, 63])
 (.block 4 (.loop c_law13_OplogMerges_L0)))
 (.seq (.seq (.rg [⟨none, [(some 81, .ld (.t 9) 1 false), (some 82, .len (.t 81)), (some 83, .mv (.c (.int .i64 0)))]⟩] [5, 6, 7, 81, 82, 83])
 (.block 6 (.loop c_law13_OplogMerges_L1)))
 (.seq (.rg [⟨none, [(some 101, .mv (.t 5)), (some 102, .call 19 [(.t 101)]), (some 103, .mv (.t 6)), (some 104, .call 19 [(.t 103)]), (some 21, .mv (.t 102)), (some 22, .mv (.t 104))]⟩] [5, 6, 7, 21, 22])
 (.seq (.rga (.op ⟨none, [(some 105, .mv (.t 5))]⟩ (.op ⟨none, [(some 107, .mv (.t 6))]⟩ (.op ⟨none, [(some 106, .call 22 [(.t 105)])]⟩ (.op ⟨none, [(some 108, .call 22 [(.t 107)])]⟩ (.op ⟨none, [(some 109, .bin .eql (.t 106) (.t 108))]⟩ (.op ⟨none, [(some 110, .mv (.t 109))]⟩ (.op ⟨some (110, true), [(some 111, .mv (.t 5))]⟩ (.or (.op ⟨some (110, true), [(some 112, .call 22 [(.t 111)])]⟩ (.op ⟨some (110, true), [(some 113, .ld (.t 7) 1 false)]⟩ (.op ⟨some (110, true), [(some 114, .mlnG (.t 113))]⟩ (.op ⟨some (110, true), [(some 115, .bin .eql (.t 112) (.t 114))]⟩ (.op ⟨none, [(some 116, .pick (.t 110) (.t 115) (.c (.bool false)))]⟩ (.op ⟨none, [(some 117, .mv (.t 116))]⟩ (.op ⟨some (117, true), [(some 118, .mv (.t 21))]⟩ (.op ⟨some (117, true), [(some 119, .eqA true 40 (.t 118) (.c (.pointer none)))]⟩ (.op ⟨none, [(some 120, .pick (.t 117) (.t 119) (.c (.bool false)))]⟩ (.op ⟨none, [(some 121, .mv (.t 120))]⟩ (.op ⟨some (121, true), [(some 122, .mv (.t 22))]⟩ (.op ⟨some (121, true), [(some 123, .eqA true 40 (.t 122) (.c (.pointer none)))]⟩ (.op ⟨none, [(some 124, .pick (.t 121) (.t 123) (.c (.bool false)))]⟩ (.op ⟨none, [(some 125, .mv (.t 124))]⟩ (.op ⟨some (125, true), [(some 126, .mv (.t 21))]⟩ (.op ⟨some (125, true), [(some 128, .mv (.t 22))]⟩ (.op ⟨some (125, true), [(some 127, .call 21 [(.t 126)])]⟩ (.op ⟨some (125, true), [(some 129, .call 21 [(.t 128)])]⟩ (.op ⟨some (125, true), [(some 130, .call 20 [(.t 127), (.t 129)])]⟩ (.op ⟨none, [(some 131, .pick (.t 125) (.t 130) (.c (.bool false)))]⟩ (.op ⟨none, [(some 4, .mv (.t 131))]⟩ .done))))))))))))))))))))) (.op ⟨some (110, true), [(some 113, .ld (.t 7) 1 false)]⟩ (.op ⟨some (110, true), [(some 112, .call 22 [(.t 111)])]⟩ (.op ⟨some (110, true), [(some 114, .mlnG (.t 113))]⟩ (.op ⟨some (110, true), [(some 115, .bin .eql (.t 112) (.t 114))]⟩ (.op ⟨none, [(some 116, .pick (.t 110) (.t 115) (.c (.bool false)))]⟩ (.op ⟨none, [(some 117, .mv (.t 116))]⟩ (.op ⟨some (117, true), [(some 118, .mv (.t 21))]⟩ (.op ⟨some (117, true), [(some 119, .eqA true 40 (.t 118) (.c (.pointer none)))]⟩ (.op ⟨none, [(some 120, .pick (.t 117) (.t 119) (.c (.bool false)))]⟩ (.op ⟨none, [(some 121, .mv (.t 120))]⟩ (.op ⟨some (121, true), [(some 122, .mv (.t 22))]⟩ (.op ⟨some (121, true), [(some 123, .eqA true 40 (.t 122) (.c (.pointer none)))]⟩ (.op ⟨none, [(some 124, .pick (.t 121) (.t 123) (.c (.bool false)))]⟩ (.op ⟨none, [(some 125, .mv (.t 124))]⟩ (.op ⟨some (125, true), [(some 126, .mv (.t 21))]⟩ (.op ⟨some (125, true), [(some 128, .mv (.t 22))]⟩ (.op ⟨some (125, true), [(some 127, .call 21 [(.t 126)])]⟩ (.op ⟨some (125, true), [(some 129, .call 21 [(.t 128)])]⟩ (.op ⟨some (125, true), [(some 130, .call 20 [(.t 127), (.t 129)])]⟩ (.op ⟨none, [(some 131, .pick (.t 125) (.t 130) (.c (.bool false)))]⟩ (.op ⟨none, [(some 4, .mv (.t 131))]⟩ .done))))))))))))))))))))))))))))) [4])
 .ret))))))))))))))
theorem k_law13_OplogMerges : Ok Tryz.prog 8 c_law13_OplogMerges 132 [(30, 999999)] [.tmp 4] := Ok.mk' Tryz.func8 (by kernel_rfl) (by kernel_rfl) (by kernel_rfl)

def c_law13_OplogMerges_A0 : Cd :=
 (.rg [⟨none, [(some 11, .new 26 (.c (.c (.s (.int .i64 0)) (.c (.s (.int .i64 0)) .u)) (.c (.s (.int .i64 0)) (.c (.s (.int .i64 0)) (.c (.s (.int .i64 0)) (.c (.s (.string ⟨#[]⟩)) (.c (.s (.string ⟨#[]⟩)) (.c (.s (.string ⟨#[]⟩)) .u)))))))), (none, .st (.t 11) (.t 47) 8), (none, .gh)]⟩] [9, 11])
theorem kA0_law13_OplogMerges : comp Tryz.prog 132 [(30, 999999)] (rfAs c_law13_OplogMerges_W0) = er c_law13_OplogMerges_A0 := by kernel_rfl
def c_law13_OplogMerges_B0 : Cd :=
 (.block 1 (.rg [⟨none, [(some 49, .ld (.t 9) 1 false), (some 50, .ld (.t 11) 8 true), (some 51, .bldS 26 8 (.c (.c (.s (.int .i64 0)) (.c (.s (.int .i64 0)) .u)) (.c (.s (.int .i64 0)) (.c (.s (.int .i64 0)) (.c (.s (.int .i64 0)) (.c (.s (.string ⟨#[]⟩)) (.c (.s (.string ⟨#[]⟩)) (.c (.s (.string ⟨#[]⟩)) .u))))))) [(.t 50)]), (some 52, .app 26 8 88 (.c (.c (.s (.int .i64 0)) (.c (.s (.int .i64 0)) .u)) (.c (.s (.int .i64 0)) (.c (.s (.int .i64 0)) (.c (.s (.int .i64 0)) (.c (.s (.string ⟨#[]⟩)) (.c (.s (.string ⟨#[]⟩)) (.c (.s (.string ⟨#[]⟩)) .u))))))) (.t 49) (.t 51)), (none, .st (.t 9) (.t 52) 1)]⟩] []))
theorem kB0_law13_OplogMerges : comp Tryz.prog 132 [(30, 999999)] (rfBd c_law13_OplogMerges_W0) = er c_law13_OplogMerges_B0 := by kernel_rfl
def c_law13_OplogMerges_A1 : Cd :=
 (.rg [⟨none, [(some 12, .new 26 (.c (.c (.s (.int .i64 0)) (.c (.s (.int .i64 0)) .u)) (.c (.s (.int .i64 0)) (.c (.s (.int .i64 0)) (.c (.s (.int .i64 0)) (.c (.s (.string ⟨#[]⟩)) (.c (.s (.string ⟨#[]⟩)) (.c (.s (.string ⟨#[]⟩)) .u)))))))), (none, .st (.t 12) (.t 55) 8), (none, .gh)]⟩] [10, 12])
theorem kA1_law13_OplogMerges : comp Tryz.prog 132 [(30, 999999)] (rfAs c_law13_OplogMerges_W1) = er c_law13_OplogMerges_A1 := by kernel_rfl
def c_law13_OplogMerges_B1 : Cd :=
 (.block 3 (.rg [⟨none, [(some 57, .ld (.t 10) 1 false), (some 58, .ld (.t 12) 8 true), (some 59, .bldS 26 8 (.c (.c (.s (.int .i64 0)) (.c (.s (.int .i64 0)) .u)) (.c (.s (.int .i64 0)) (.c (.s (.int .i64 0)) (.c (.s (.int .i64 0)) (.c (.s (.string ⟨#[]⟩)) (.c (.s (.string ⟨#[]⟩)) (.c (.s (.string ⟨#[]⟩)) .u))))))) [(.t 58)]), (some 60, .app 26 8 88 (.c (.c (.s (.int .i64 0)) (.c (.s (.int .i64 0)) .u)) (.c (.s (.int .i64 0)) (.c (.s (.int .i64 0)) (.c (.s (.int .i64 0)) (.c (.s (.string ⟨#[]⟩)) (.c (.s (.string ⟨#[]⟩)) (.c (.s (.string ⟨#[]⟩)) .u))))))) (.t 57) (.t 59)), (none, .st (.t 10) (.t 60) 1)]⟩] []))
theorem kB1_law13_OplogMerges : comp Tryz.prog 132 [(30, 999999)] (rfBd c_law13_OplogMerges_W1) = er c_law13_OplogMerges_B1 := by kernel_rfl
abbrev f_law13_OplogMerges_1 : Nat := 25
def c_law13_OplogMerges_1_L0 : Cd :=
 (.seq (.rg [⟨none, [(some 14, .bin .lss (.t 13) (.t 12))]⟩] [0, 2, 11, 12, 13, 14])
 (.seq (.ite (.t 14)
 .skip
 (.exit 0))
 (.seq (.block 1 (.seq (.rg [⟨none, [(some 15, .idxS (.t 11) (.t 13) 8), (some 16, .ld (.t 15) 8 true), (some 6, .new 26 (.c (.c (.s (.int .i64 0)) (.c (.s (.int .i64 0)) .u)) (.c (.s (.int .i64 0)) (.c (.s (.int .i64 0)) (.c (.s (.int .i64 0)) (.c (.s (.string ⟨#[]⟩)) (.c (.s (.string ⟨#[]⟩)) (.c (.s (.string ⟨#[]⟩)) .u)))))))), (none, .st (.t 6) (.t 16) 8)]⟩] [0, 2, 6, 11, 12, 13])
 (.seq (.seq (.rg [⟨none, [(some 18, .ld (.t 2) 1 false), (some 19, .fldA (.t 6) 0 0), (some 20, .ld (.t 19) 2 true), (some 21, .mlkG (.t 18) (.t 20) (.c (.c (.s (.int .i64 0)) (.c (.s (.int .i64 0)) .u)) (.c (.s (.int .i64 0)) (.c (.s (.int .i64 0)) (.c (.s (.int .i64 0)) (.c (.s (.string ⟨#[]⟩)) (.c (.s (.string ⟨#[]⟩)) (.c (.s (.string ⟨#[]⟩)) .u))))))) true), (some 17, .mv (.t 21)), (some 22, .ext (.t 17) 0), (some 23, .ext (.t 17) 1), (some 7, .new 26 (.c (.c (.s (.int .i64 0)) (.c (.s (.int .i64 0)) .u)) (.c (.s (.int .i64 0)) (.c (.s (.int .i64 0)) (.c (.s (.int .i64 0)) (.c (.s (.string ⟨#[]⟩)) (.c (.s (.string ⟨#[]⟩)) (.c (.s (.string ⟨#[]⟩)) .u)))))))), (none, .st (.t 7) (.t 22) 8), (some 8, .mv (.t 23))]⟩] [0, 2, 6, 7, 8, 11, 12, 13])
 (.seq (.rg [⟨none, [(some 24, .mv (.t 8))]⟩] [0, 2, 6, 7, 11, 12, 13, 24])
 (.ite (.t 24)
 (.rg [⟨none, [(some 25, .ld (.t 7) 8 true), (none, .st (.t 6) (.t 25) 8)]⟩] [0, 2, 6, 11, 12, 13])
 .skip)))
 (.seq (.rg [⟨none, [(some 27, .mv (.t 0)), (some 28, .ld (.t 6) 8 true), (some 29, .bldS 26 8 (.c (.c (.s (.int .i64 0)) (.c (.s (.int .i64 0)) .u)) (.c (.s (.int .i64 0)) (.c (.s (.int .i64 0)) (.c (.s (.int .i64 0)) (.c (.s (.string ⟨#[]⟩)) (.c (.s (.string ⟨#[]⟩)) (.c (.s (.string ⟨#[]⟩)) .u))))))) [(.t 28)]), (some 30, .call 14 [(.t 27), (.t 29)]), (some 26, .mv (.t 30)), (some 31, .ext (.t 26) 0), (some 32, .ext (.t 26) 1), (some 9, .mv (.t 31)), (some 10, .mv (.t 32))]⟩] [0, 2, 6, 10, 11, 12, 13])
 (.seq (.rg [⟨none, [(some 33, .mv (.t 10)), (some 34, .bin .eql (.t 33) (.c (.int .i64 0)))]⟩] [0, 2, 6, 11, 12, 13, 34])
 (.ite (.t 34)
 (.rg [⟨none, [(some 35, .ld (.t 2) 1 false), (some 36, .fldA (.t 6) 0 0), (some 37, .ld (.t 36) 2 true), (some 38, .ld (.t 6) 8 true), (none, .mupG (.t 35) (.t 37) (.t 38))]⟩] [0, 2, 11, 12, 13])
 .skip))))))
 (.rg [⟨none, [(some 39, .bin .add (.t 13) (.c (.int .i64 1))), (some 13, .mv (.t 39))]⟩] [0, 2, 11, 12, 13]))))
def c_law13_OplogMerges_1 : Cd :=
 (.seq (.rg [⟨none, [(some 11, .mv (.t 1)), (some 12, .len (.t 11)), (some 13, .mv (.c (.int .i64 0)))]⟩] [0, 2, 11, 12, 13])
 (.block 0 (.loop c_law13_OplogMerges_1_L0)))
theorem k_law13_OplogMerges_1 : Ok Tryz.prog 25 c_law13_OplogMerges_1 40 [] [] := Ok.mk' Tryz.func25 (by kernel_rfl) (by kernel_rfl) (by kernel_rfl)

end Go.Proofs.YtmjiojflncffeaaGreat.Vc

/- OplogMerges: what is known of two logs; the closure that puts operations to one of them. -/
set_option linter.unusedVariables false
set_option linter.unusedSimpArgs false
set_option maxRecDepth 100000
namespace Go.Proofs.YtmjiojflncffeaaGreat.Vc
open Go Go.Proofs

/-! ### Operations by stamp -/
def gkn (K : List Op) : List ((Int × Int) × GV) := K.map fun op => (op.k, gOp op)
theorem gkn_none : ∀ {K : List Op} {k : Int × Int}, k ∉ K.map Op.k → mgetG (gkn K) k = none
  | [], _, _ => rfl
  | x :: K, k, h => by
    rw [List.map_cons, List.mem_cons, not_or] at h
    show (if x.k = k then some (gOp x) else mgetG (gkn K) k) = none
    rw [if_neg (fun e => h.1 e.symm), gkn_none h.2]
theorem gkn_some : ∀ {K : List Op} {x : Op}, (K.map Op.k).Nodup → x ∈ K → mgetG (gkn K) x.k = some (gOp x)
  | [], _, _, h => by cases h
  | y :: K, x, hn, h => by
    rw [List.map_cons, List.nodup_cons] at hn
    show (if y.k = x.k then some (gOp y) else mgetG (gkn K) x.k) = _
    rcases List.mem_cons.1 h with rfl | h
    · rw [if_pos rfl]
    · rw [if_neg (fun e => hn.1 (by rw [e]; exact List.mem_map.2 ⟨x, h, rfl⟩)), gkn_some hn.2 h]
theorem gkn_new : ∀ {K : List Op} {x : Op}, x.k ∉ K.map Op.k → mputG (gkn K) x.k (gOp x) = gkn (K ++ [x])
  | [], _, _ => rfl
  | y :: K, x, h => by
    rw [List.map_cons, List.mem_cons, not_or] at h
    show (if y.k = x.k then (x.k, gOp x) :: gkn K else (y.k, gOp y) :: mputG (gkn K) x.k (gOp x)) = _
    rw [if_neg (fun e => h.1 e.symm), gkn_new h.2]; rfl
theorem gkn_old : ∀ {K : List Op} {x : Op}, (K.map Op.k).Nodup → x ∈ K → mputG (gkn K) x.k (gOp x) = gkn K
  | [], _, _, h => by cases h
  | y :: K, x, hn, h => by
    rw [List.map_cons, List.nodup_cons] at hn
    show (if y.k = x.k then (x.k, gOp x) :: gkn K else (y.k, gOp y) :: mputG (gkn K) x.k (gOp x)) = _
    rcases List.mem_cons.1 h with rfl | h
    · rw [if_pos rfl]; rfl
    · rw [if_neg (fun e => hn.1 (by rw [e]; exact List.mem_map.2 ⟨x, h, rfl⟩)), gkn_old hn.2 h]; rfl
theorem mapI_G {o : Obj} {kd : Option IntKind} (h : MapI kd o []) : MapG o [] := by
  obtain ⟨es, cl, rfl, h1, h2, _⟩ := h
  exact ⟨es, cl, rfl, by simpa using h1, h2, by simp⟩
/-- What is known of two logs with these operations. -/
structure Kn (K l l2 : List Op) : Prop where
  nod : (K.map Op.k).Nodup
  goods : Goods K
  in1 : ∀ op ∈ l, op ∈ K
  in2 : ∀ op ∈ l2, op ∈ K
  all : ∀ op ∈ K, op ∈ l ∨ op ∈ l2
theorem Kn.swap {K l l2 : List Op} (h : Kn K l l2) : Kn K l2 l := ⟨h.nod, h.goods, h.in2, h.in1, fun op ho => (h.all op ho).symm⟩
theorem Kn.nil : Kn [] [] [] := ⟨by simp, fun op h => (by cases h), fun op h => (by cases h), fun op h => (by cases h), fun op h => (by cases h)⟩
theorem Kn.old {K l l2 : List Op} {x : Op} (h : Kn K l l2) (hx : x ∈ K) : Kn K (l ++ [x]) l2 :=
  ⟨h.nod, h.goods, fun op ho => by
    rcases List.mem_append.1 ho with ho | ho
    · exact h.in1 op ho
    · rw [List.mem_singleton.1 ho]; exact hx, h.in2, fun op ho => (h.all op ho).imp (List.mem_append_left _) id⟩
theorem Kn.new {K l l2 : List Op} {x : Op} (h : Kn K l l2) (hx : x.k ∉ K.map Op.k) (hg : (OpIn x ∧ OpOk x) ∧ checkE x = 0) : Kn (K ++ [x]) (l ++ [x]) l2 := by
  refine ⟨?_, fun op ho => ?_, fun op ho => ?_, fun op ho => List.mem_append_left _ (h.in2 op ho), fun op ho => ?_⟩
  · rw [List.map_append, List.nodup_append]
    refine ⟨h.nod, by simp, fun a ha b hb e => ?_⟩
    simp only [List.map_cons, List.map_nil, List.mem_singleton] at hb
    subst hb; subst e
    exact hx ha
  · rcases List.mem_append.1 ho with ho | ho
    · exact h.goods op ho
    · rw [List.mem_singleton.1 ho]; exact hg
  · rcases List.mem_append.1 ho with ho | ho
    · exact List.mem_append_left _ (h.in1 op ho)
    · exact List.mem_append_right _ ho
  · rcases List.mem_append.1 ho with ho | ho
    · exact (h.all op ho).imp (List.mem_append_left _) id
    · exact .inl (List.mem_append_right _ ho)

theorem dis_one_of2 {b : Nat} {o o' : Obj} {m : PH} (h : dis m (one b o)) : dis m (one b o') := dis_comm (dis_one_of (dis_comm h))
/-- What the closure leaves. -/
def PutMQ (b nb : Nat) (Lb : Lay) (l2 : List Op) (n : Nat) (rs : List GV) (m' : PH) : Prop :=
  rs = [] ∧ ∃ L p mL l K o, m' = uni mL (one nb o) ∧ dis mL (one nb o) ∧ Way2 b mL L Lb p l ∧ MapG o (gkn K) ∧ Kn K l l2 ∧ l.length ≤ n
theorem putM_spec (w : World) (m mL : PH) (b nb kb : Nat) (L Lb : Lay) (p : PL) (l l2 K : List Op) (o : Obj) (ek : TypeId) (hm : m = uni mL (one nb o)) (hd : dis mL (one nb o)) (hW : Way2 b mL L Lb p l) (hM : MapG o (gkn K)) (hK : Kn K l l2)
    (hkb : (but w m) kb = some (.cells #[.map (some nb)] ek (0, 0))) (v : Value) (ops : List Op) (ho : ∀ op ∈ ops, OpIn op ∧ OpOk op) (hS : SlR (but w m) v 8 (ops.map gOp)) (hl : l.length + ops.length ≤ 1048576) :
    Spec Tryz.prog f_law13_OplogMerges_1 [ptr b, v, ptr kb] m w (PutMQ b nb Lb l2 (l.length + ops.length)) := by
  refine spec_of k_law13_OplogMerges_1 [.g (.s (ptr b)), .ro v 8 (gOp zOp) (ops.map gOp), .g (.s (ptr kb))] (by simp) (by simpa [AV.ok, but_u0, GV.ok, Value.oneCell', ptr] using hS) ?_
  have hkn : ∀ {ph : List PH} {m' : PH}, Seen ⟨Tryz.prog, 40, w, m⟩ ph m' kb 0 (.s (.map (some nb))) := fun {ph m'} =>
    seen_cell (u := but w m) (fun b o h => .inl (by rw [but_u0]; exact h)) hkb rfl rfl
  simp (maxSteps := 2000000) only [c_law13_OplogMerges_1, ptr, vc_seq, vc_block, vc_rg, thenQ_n, kKeep_eq, segs_nil, segs_n, ops_nil, ops_cons, vcOp, ev, look, put_mk, keep_mk, keepL, Value.oneCell', cond_true, Nat.reduceEqDiff, Nat.reduceAdd, ↓reduceIte, reduceCtorEq, Nat.zero_add, initF, initP, Int.reduceAdd, List.length_map, ptr]
  refine vc_loop (ι := Nat × Lay × PL × PH × List Op × List Op × Obj) (fun x => ⟨[(0, .g (.s (.pointer (some ⟨b, 0, none⟩)))), (2, .g (.s (.pointer (some ⟨kb, 0, none⟩)))), (11, .row 1 0 (ops.length)), (12, .g (.s (.int .i64 (ops.length)))), (13, .g (.s (.int .i64 (x.1))))], [(1, .ro 8 (gOp zOp) (ops.map gOp))], [], uni x.2.2.2.1 (one nb x.2.2.2.2.2.2)⟩)
    (fun x => x.1 ≤ ops.length ∧ Way2 b x.2.2.2.1 x.2.1 Lb x.2.2.1 x.2.2.2.2.1 ∧ dis x.2.2.2.1 (one nb x.2.2.2.2.2.2) ∧ MapG x.2.2.2.2.2.2 (gkn x.2.2.2.2.2.1) ∧ Kn x.2.2.2.2.2.1 x.2.2.2.2.1 l2 ∧ x.2.2.2.2.1.length ≤ l.length + x.1) (fun x => ops.length - x.1) (0, L, p, mL, l, K, o) ⟨by simp, hW, hd, hM, hK, Nat.le_refl _⟩ (ge_of ?_ ?_ rfl rfl hm.symm) ?_
  · simp [frIn, look]
  · simp [pvIn, look]
  clear hW hd hM hK hm
  rintro ⟨i, L, p, mL, l', K, o⟩ ⟨hi, hW, hd, hM, hK, hll⟩
  simp only at hi hW hd hM hK hll
  have hpl := hW.len
  generalize hQ : loopQ _ _ _ _ _ = Q
  simp (maxSteps := 2000000) only [c_law13_OplogMerges_1_L0, vc_skip, vc_exit, vc_seq, vc_block, vc_rg, vc_ite, thenQ_n, thenQ_e, kKeep_eq, segs_nil, segs_n, ops_nil, ops_cons, vcOp, ev, look, updL, put_mk, put_mk0, keep_mk, keepL, rowE, rowD, binV, binC, Nat.reduceEqDiff, ↓reduceIte, reduceCtorEq, Nat.zero_add, Bool.and_true, Bool.true_and, true_and, and_true, Int.toNat_natCast, decide_eq_true_eq, decide_eq_false_iff_not, br_t, getT_nil, setT_nil, gStamp_zero, gOp_sz, gOp_fits, gOp_same, gOp_zero, getD_gOp]
  refine ⟨fun hlt => ⟨⟨by omega, by omega⟩, ?_⟩, fun hge => ?_⟩
  · have hil : i < ops.length := by omega
    obtain ⟨op, hop⟩ : ∃ op, ops.getD i zOp = op := ⟨_, rfl⟩
    have hoo := ho op (hop ▸ getD_in hil zOp)
    rw [hop]
    refine ld_of _ hkn rfl ?_
    simp (maxSteps := 2000000) only [ops_cons, vcOp, ev, look, put_mk, Nat.reduceEqDiff, ↓reduceIte, reduceCtorEq, List.nil_append, Bool.true_and, true_and, getT_nil, gStamp_fits, gOp_fld0, gOp_get0]
    have hsee : ∀ {ph : List PH}, SeenO ⟨Tryz.prog, 40, w, m⟩ ph (uni mL (one nb o)) nb o := .inl (uni_r hd (one_at nb o)).1
    refine ⟨op.k, o, _, rfl, hsee, hM, ?_⟩
    by_cases hk : op.k ∈ K.map Op.k
    · obtain ⟨x, hxK, hxk⟩ := List.mem_map.1 hk
      have hxx := (hK.goods x hxK).1
      rw [← hxk, lkSG, gkn_some hK.nod hxK]
      simp (maxSteps := 2000000) only [List.getElem?_cons_succ, List.getElem?_cons_zero, Option.getD_some, Option.isSome_some, vc_seq, vc_rg, vc_ite, thenQ_n, kKeep_eq, segs_nil, segs_n, ops_nil, ops_cons, vcOp, ev, evL, gvL, look, updL, put_mk, put_mk0, keep_mk, keepL, cond_true, Nat.reduceEqDiff, ↓reduceIte, reduceCtorEq, Nat.zero_add, Bool.and_true, Bool.true_and, true_and, and_true, Option.map_some, szAll, List.length_cons, List.length_nil, ↓br_tt, getT_nil, setT_nil, gOp_sz, gOp_fits, gOp_same]
      refine call_split mL (one nb o) rfl rfl rfl hd (Q := StepQ b L Lb p 0 [x]) (fun w' vs hv _ _ _ => ?_) fun rs m1 _ hq hd1 => ?_
      · obtain ⟨vs, rfl, _, hv⟩ := argsB_g hv
        obtain ⟨v', vs, rfl, hs, hv⟩ := argsB_row (z := 8) (xs := [gOp x]) rfl rfl hv
        obtain rfl := argsB_nil hv
        exact one_split hW.M hW.good (by omega) hxx hs
      by_cases hlk : lookE p.ds p.fr [] [x] = 0
      · obtain ⟨L', p', n, hL1, hL2, rfl, hM', hg', hA⟩ := hq.2 hlk
        simp (maxSteps := 2000000) only [retS, List.getElem?_cons_succ, List.getElem?_cons_zero, beq_self_eq_true, vc_seq, vc_rg, vc_ite, thenQ_n, kKeep_eq, segs_nil, segs_n, ops_nil, ops_cons, vcOp, ev, look, put_mk, keep_mk, keepL, binV, binC, Value.oneCell', cond_true, Nat.reduceEqDiff, ↓reduceIte, reduceCtorEq, Bool.true_and, true_and, ↓br_tt]
        refine ld_of _ hkn rfl ?_
        simp (maxSteps := 2000000) only [ops_cons, vcOp, ev, look, put_mk, Nat.reduceEqDiff, ↓reduceIte, reduceCtorEq, List.nil_append, Bool.true_and, true_and, getT_nil, gStamp_fits, gOp_fits, gOp_fld0, gOp_get0]
        refine ⟨x.k, o, _, rfl, (uni_r hd1 (one_at nb o)).1, hM, fun o' ho' => ?_⟩
        rw [uni_upd (uni_r hd1 (one_at nb o)).2, one_upd]
        rw [gkn_old hK.nod hxK] at ho'
        simp (maxSteps := 2000000) only [vc_rg, thenQ_n, blockQ_n, kKeep_eq, segs_nil, segs_n, ops_nil, ops_cons, vcOp, ev, look, put_mk, put_mk0, keep_mk, keepL, binV, binC, Value.oneCell', cond_true, Nat.reduceEqDiff, ↓reduceIte, reduceCtorEq, Bool.true_and, true_and]
        subst hQ; simp only [loopQ_n]; refine ⟨(i + 1, L', p', m1, l' ++ [x], K, o'), ?_, ?_, ge_of ?_ ?_ rfl rfl rfl⟩
        · exact ⟨by simp only; omega, hW.add hM' hL2 hg' hA, dis_one_of2 hd1, ho', hK.old hxK, by simp only [List.length_append, List.length_cons, List.length_nil]; omega⟩
        · simp only; omega
        · simp only [frIn, look, Nat.reduceEqDiff, ↓reduceIte, reduceCtorEq, Bool.and_true, Bool.true_and, true_and, and_true]
          rw [wrap_n (by omega)]
          try simp
        · simp [pvIn, look]
      · obtain ⟨rfl, hM'⟩ := hq.1 hlk
        simp (maxSteps := 2000000) only [retS, List.getElem?_cons_succ, List.getElem?_cons_zero, beq_eq_false_iff_ne.2 hlk, vc_skip, vc_seq, vc_rg, vc_ite, thenQ_n, blockQ_n, kKeep_eq, segs_nil, segs_n, ops_nil, ops_cons, vcOp, ev, look, put_mk, keep_mk, keepL, binV, binC, Value.oneCell', cond_true, Nat.reduceEqDiff, ↓reduceIte, reduceCtorEq, Bool.true_and, true_and, ↓br_ft]
        subst hQ; simp only [loopQ_n]; refine ⟨(i + 1, L, p, m1, l', K, o), ?_, ?_, ge_of ?_ ?_ rfl rfl rfl⟩
        · exact ⟨by simp only; omega, ⟨hM', hW.good, hW.fr, hW.B, hW.perm⟩, hd1, hM, hK, by simp only; omega⟩
        · simp only; omega
        · simp only [frIn, look, Nat.reduceEqDiff, ↓reduceIte, reduceCtorEq, Bool.and_true, Bool.true_and, true_and, and_true]
          rw [wrap_n (by omega)]
          try simp
        · simp [pvIn, look]
    · rw [lkSG, gkn_none hk]
      simp (maxSteps := 2000000) only [List.getElem?_cons_succ, List.getElem?_cons_zero, Option.getD_none, Option.isSome_none, vc_skip, vc_seq, vc_rg, vc_ite, thenQ_n, kKeep_eq, segs_nil, segs_n, ops_nil, ops_cons, vcOp, ev, evL, gvL, look, updL, put_mk, put_mk0, keep_mk, keepL, cond_true, Nat.reduceEqDiff, ↓reduceIte, reduceCtorEq, Nat.zero_add, Bool.and_true, Bool.true_and, true_and, and_true, Option.map_some, szAll, List.length_cons, List.length_nil, ↓br_ft, getT_nil, setT_nil, gOp_sz, gOp_fits, gOp_same]
      refine call_split mL (one nb o) rfl rfl rfl hd (Q := StepQ b L Lb p 0 [op]) (fun w' vs hv _ _ _ => ?_) fun rs m1 _ hq hd1 => ?_
      · obtain ⟨vs, rfl, _, hv⟩ := argsB_g hv
        obtain ⟨v', vs, rfl, hs, hv⟩ := argsB_row (z := 8) (xs := [gOp op]) rfl rfl hv
        obtain rfl := argsB_nil hv
        exact one_split hW.M hW.good (by omega) hoo hs
      by_cases hlk : lookE p.ds p.fr [] [op] = 0
      · obtain ⟨L', p', n, hL1, hL2, rfl, hM', hg', hA⟩ := hq.2 hlk
        simp (maxSteps := 2000000) only [retS, List.getElem?_cons_succ, List.getElem?_cons_zero, beq_self_eq_true, vc_seq, vc_rg, vc_ite, thenQ_n, kKeep_eq, segs_nil, segs_n, ops_nil, ops_cons, vcOp, ev, look, put_mk, keep_mk, keepL, binV, binC, Value.oneCell', cond_true, Nat.reduceEqDiff, ↓reduceIte, reduceCtorEq, Bool.true_and, true_and, ↓br_tt]
        refine ld_of _ hkn rfl ?_
        simp (maxSteps := 2000000) only [ops_cons, vcOp, ev, look, put_mk, Nat.reduceEqDiff, ↓reduceIte, reduceCtorEq, List.nil_append, Bool.true_and, true_and, getT_nil, gStamp_fits, gOp_fits, gOp_fld0, gOp_get0]
        refine ⟨op.k, o, _, rfl, (uni_r hd1 (one_at nb o)).1, hM, fun o' ho' => ?_⟩
        rw [uni_upd (uni_r hd1 (one_at nb o)).2, one_upd]
        rw [gkn_new hk] at ho'
        simp (maxSteps := 2000000) only [vc_rg, thenQ_n, blockQ_n, kKeep_eq, segs_nil, segs_n, ops_nil, ops_cons, vcOp, ev, look, put_mk, put_mk0, keep_mk, keepL, binV, binC, Value.oneCell', cond_true, Nat.reduceEqDiff, ↓reduceIte, reduceCtorEq, Bool.true_and, true_and]
        subst hQ; simp only [loopQ_n]; refine ⟨(i + 1, L', p', m1, l' ++ [op], K ++ [op], o'), ?_, ?_, ge_of ?_ ?_ rfl rfl rfl⟩
        · exact ⟨by simp only; omega, hW.add hM' hL2 hg' hA, dis_one_of2 hd1, ho', hK.new hk ⟨hoo, looked_one hlk⟩, by simp only [List.length_append, List.length_cons, List.length_nil]; omega⟩
        · simp only; omega
        · simp only [frIn, look, Nat.reduceEqDiff, ↓reduceIte, reduceCtorEq, Bool.and_true, Bool.true_and, true_and, and_true]
          rw [wrap_n (by omega)]
          try simp
        · simp [pvIn, look]
      · obtain ⟨rfl, hM'⟩ := hq.1 hlk
        simp (maxSteps := 2000000) only [retS, List.getElem?_cons_succ, List.getElem?_cons_zero, beq_eq_false_iff_ne.2 hlk, vc_skip, vc_seq, vc_rg, vc_ite, thenQ_n, blockQ_n, kKeep_eq, segs_nil, segs_n, ops_nil, ops_cons, vcOp, ev, look, put_mk, keep_mk, keepL, binV, binC, Value.oneCell', cond_true, Nat.reduceEqDiff, ↓reduceIte, reduceCtorEq, Bool.true_and, true_and, ↓br_ft]
        subst hQ; simp only [loopQ_n]; refine ⟨(i + 1, L, p, m1, l', K, o), ?_, ?_, ge_of ?_ ?_ rfl rfl rfl⟩
        · exact ⟨by simp only; omega, ⟨hM', hW.good, hW.fr, hW.B, hW.perm⟩, hd1, hM, hK, by simp only; omega⟩
        · simp only; omega
        · simp only [frIn, look, Nat.reduceEqDiff, ↓reduceIte, reduceCtorEq, Bool.and_true, Bool.true_and, true_and, and_true]
          rw [wrap_n (by omega)]
          try simp
        · simp [pvIn, look]
  · subst hQ
    simp (maxSteps := 2000000) only [blockQ_e, loopQ_e, finQ_n, ↓reduceIte]
    exact fin_m _ rfl (fun _ _ h => h) ⟨rfl, L, p, mL, l', K, o, rfl, hd, hW, hM, hK, by omega⟩
end Go.Proofs.YtmjiojflncffeaaGreat.Vc

/- OplogTree, the walk. -/
set_option linter.unusedVariables false
set_option linter.unusedSimpArgs false
set_option maxRecDepth 100000
namespace Go.Proofs.YtmjiojflncffeaaGreat.Vc
open Go Go.Proofs

end Go.Proofs.YtmjiojflncffeaaGreat.Vc

/- A loop over a function that asks for no round. -/
set_option linter.unusedVariables false
set_option linter.unusedSimpArgs false
namespace Go.Proofs.YtmjiojflncffeaaGreat.Vc
open Go Go.Shelf

theorem kept_alloc (w : World) (o : Obj) : Kept PH.no w (w.alloc o) := by
  refine ⟨rfl, rfl, rfl, by rw [World.size_alloc]; omega, fun k hk _ => ?_⟩
  show (w.heap.push o)[k]? = _
  rw [Array.getElem?_push_lt hk, Array.getElem?_eq_getElem hk]
theorem kept_trans {a b c : World} (h1 : Kept PH.no a b) (h2 : Kept PH.no b c) : Kept PH.no a c := by
  obtain ⟨k1, k2, k3, k4, k5⟩ := h1
  obtain ⟨q1, q2, q3, q4, q5⟩ := h2
  exact ⟨q1.trans k1, q2.trans k2, q3.trans k3, by omega, fun k hk hn => (q5 k (by omega) hn).trans (k5 k hk hn)⟩
end Go.Proofs.YtmjiojflncffeaaGreat.Vc

