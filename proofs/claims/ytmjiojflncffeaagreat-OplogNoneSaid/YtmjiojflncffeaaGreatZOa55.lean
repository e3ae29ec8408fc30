/- OplogNone: for every input the law answers true and leaves its argument as it was. No condition. -/
import Derived.Test.YtmjiojflncffeaaGreatProg
import Derived.RangeFuncKeeps
import Derived.Shelf.Abstract
import Derived.Sort.LoopGhostIn
import Derived.RangeFuncCalls
import Derived.Test.YtmjiojflncffeaaGreatZOa54
/- Operations put to their places in a log: ahead of the walk. -/
set_option linter.unusedVariables false
set_option linter.unusedSimpArgs false
set_option maxRecDepth 100000
namespace Go.Proofs.YtmjiojflncffeaaGreat.Vc
open Go Go.Proofs

theorem eqUndoZ : EqG Tryz.prog 71 (gUndo zUndo) (gUndo zUndo) true := fun x y w => ⟨by kernel_rfl, by kernel_rfl⟩
theorem Back_zero (w : World) (m : PH) (L : Lay) (T : PT) (hT : TM m L T) : Spec Tryz.prog f_tree_Tree_Back [ptr (L .t), (gUndo zUndo).val] m w fun rs m' => rs = [.s (.int .i64 0)] ∧ TM m' L T := by
  refine spec_of k_tree_Tree_Back [.g (.s (ptr (L .t))), .g (gUndo zUndo)] (by simp) (by simp [AV.ok, GV.ok, Value.oneCell', ptr, gUndo_ok zUndo rfl]) ?_
  simp (maxSteps := 2000000) only [c_tree_Tree_Back, vc_seq, vc_rg, thenQ_n, kKeep_eq, segs_nil, segs_n, ops_nil, ops_cons, vcOp, ev, look, updL, put_mk, keep_mk, keepL, Value.oneCell', cond_true, Nat.reduceEqDiff, ↓reduceIte, reduceCtorEq, Nat.zero_add, Bool.true_and, true_and, initF, initP, gStamp_zero, gOp_zero, gPlace_zero, gUndo_zero, ptr]
  refine call_ism _ [.s (.bool false)] rfl rfl (fun w' vs hv _ _ hm => ?_) ?_
  · obtain ⟨vs, rfl, _, hv⟩ := argsV_g hv
    obtain rfl := argsV_nil hv
    exact none_spec hm hT
  simp (maxSteps := 2000000) only [retS, vc_skip, vc_seq, vc_rg, vc_ite, thenQ_n, kKeep_eq, segs_nil, segs_n, ops_nil, ops_cons, vcOp, ev, evL, gvL, look, put_mk, keep_mk, keepL, Nat.reduceEqDiff, ↓reduceIte, reduceCtorEq, Bool.true_and, true_and, List.map_nil, ↓br_ft, GV.bldT, GV.bldC, getT_nil, gUndo_fits]
  refine eq_of eqUndoZ ?_
  simp (maxSteps := 2000000) only [vc_ret, vc_seq, vc_rg, vc_ite, thenQ_n, thenQ_r, kKeep_eq, finQ_r, segs_nil, segs_n, ops_nil, ops_cons, vcOp, ev, look, put_mk, keep_mk, keepL, Value.oneCell', cond_true, Nat.reduceEqDiff, ↓reduceIte, reduceCtorEq, ↓br_tt, Bool.bne_false]
  exact fin_m m rfl (fun _ _ h => h) ⟨rfl, hT⟩
/-- The beginning of a slice that lies anywhere. -/
theorem ops_take {C : Ctx} {σ : SS} {t z : Nat} {x : Opd} {hi : Option Opd} {r : List (Option Nat × RO)} {K : KT} {v : Value} {e : TypeId} {u : PH} {xs : List GV} {h : Nat} (hx : ev σ x = some (.g (.s v))) (hs : SlO u v e z xs) (hhi : ∀ d : Nat, bndN σ hi d = some h)
    (h2 : h ≤ xs.length) (hK : ∀ v', v'.oneCell' = true → SlO u v' e z (xs.take h) → vcSegOps C r K (σ.put (some t) (.g (.s v')))) : vcSegOps C ((some t, .sl z x none hi) :: r) K σ := by
  rw [ops_cons]
  simp only [vcOp, hx]
  have hlo : ∀ d : Nat, bndN σ none d = some d := fun d => rfl
  have hw := hs
  obtain ⟨hels, ⟨rfl, rfl⟩ | ⟨⟨b, o, sp⟩, c, rfl, hc, hs⟩⟩ := hs
  · obtain rfl : h = 0 := by simpa using h2
    simp only [hlo, hhi]
    exact ⟨⟨rfl, rfl⟩, hK _ rfl hw⟩
  · cases sp with
    | none =>
      simp only [hlo, hhi]
      refine ⟨⟨hc, by omega, by omega, by omega⟩, ?_⟩
      have := SlO.take (ad' := some ⟨b, o, none⟩) hw rfl h2 rfl
      have e1 : (if c = (0 : Int).toNat then o else o + (0 : Int).toNat * z) = o := by
        split <;> simp
      simp only [Int.toNat_natCast, Int.toNat_zero, Nat.sub_zero, Nat.zero_mul, Nat.add_zero, ite_self]
      exact hK _ rfl this
    | some sp =>
      have hc0 : c = 0 := by
        rcases Nat.eq_zero_or_pos c with h | h
        · exact h
        · obtain ⟨_, g, _⟩ := hs h
          cases g
      subst hc0
      have hx0 : xs = [] := List.length_eq_zero_iff.1 (by omega)
      subst hx0
      obtain rfl : h = 0 := by simpa using h2
      simp only [hlo, hhi, List.length_nil]
      exact ⟨⟨rfl, rfl⟩, hK _ rfl hw⟩
theorem upd_upd2 (m : PH) (b : Nat) (x y : Obj) : (m.upd b x).upd b y = m.upd b y := by
  funext k
  simp only [PH.upd]
  split <;> rfl
theorem count_snoc (P : Done → Bool) (rs : List Done) (d : Done) : ((rs ++ [d]).filter P).length = (rs.filter P).length + (if P d = true then 1 else 0) := by
  rw [List.filter_append, List.length_append]
  cases h : P d <;> simp [List.filter_cons, h]
/-- What Add answers. -/
def AddQ (b : Nat) (L Lb : Lay) (p : PL) (kb q : Nat) (ops : List Op) (rs : List GV) (m' : PH) : Prop :=
  (lookE p.ds p.fr [] ops ≠ 0 → rs = [.s (.int .i64 0), .s (.int .i64 (lookE p.ds p.fr [] ops))] ∧ LogM m' b L Lb p) ∧
  (lookE p.ds p.fr [] ops = 0 → ∃ L' p' n, L' .t = L .t ∧ L' .mk = L .mk ∧ rs = [.s (.int .i64 n), .s (.int .i64 0)] ∧ LogM m' b L' Lb p' ∧ p'.good (ptr (L .mk)) kb (q + p.ds.length + ops.length) ∧ Added p ops p' n)
/-- Operations put to their places. -/
theorem add_spec (w : World) (m : PH) (b : Nat) (L Lb : Lay) (p : PL) (hL : LogM m b L Lb p) {kb q : Nat} (hg : p.good (ptr (L .mk)) kb q) (v : Value) (ops : List Op) (hops : OpsIn ops) (hS : SlR (but w m) v 8 (ops.map gOp))
    (hq : q + p.ds.length + ops.length < 1099511627776) (hfew : p.ds.length ≤ 1048576) :
    Spec Tryz.prog f_oplog_Log_Add [ptr b, v] m w (AddQ b L Lb p kb q ops) := by
  refine spec_of k_oplog_Log_Add [.g (.s (ptr b)), .ro v 8 (gOp zOp) (ops.map gOp)] (by simp) (by simpa [AV.ok, but_u0, GV.ok, Value.oneCell', ptr] using hS) ?_
  have hof : ∀ d ∈ p.ds, d.undo.of.oneCell' = true := fun d hd => by rcases hg.fl.hist.isof d hd with e | e <;> rw [e] <;> rfl
  have hn := hops.1
  simp (maxSteps := 2000000) only [c_oplog_Log_Add, ptr, vc_seq, vc_rg, thenQ_n, kKeep_eq, segs_nil, segs_n, ops_nil, ops_cons, vcOp, ev, look, put_mk, keep_mk, keepL, Value.oneCell', cond_true, Nat.reduceEqDiff, ↓reduceIte, reduceCtorEq, Nat.zero_add, initF, initP, List.length_map, ptr]
  refine call_ism _ [.s (.bool false)] rfl rfl (fun w' vs hv _ _ hm => ?_) ?_
  · obtain ⟨vs, rfl, _, hv⟩ := argsV_g hv
    obtain rfl := argsV_nil hv
    exact logNone_spec hm hL
  simp (maxSteps := 2000000) only [retS, vc_skip, vc_seq, vc_rg, vc_ite, thenQ_n, kKeep_eq, segs_nil, segs_n, ops_nil, ops_cons, vcOp, ev, look, put_mk, keep_mk, keepL, Nat.reduceEqDiff, ↓reduceIte, reduceCtorEq, ↓br_ft]
  refine call_ism _ [.s (.int .i64 (lookE p.ds p.fr [] ops))] rfl rfl (fun w' vs hv _ _ hm => ?_) ?_
  · obtain ⟨vs, rfl, _, hv⟩ := argsV_g hv
    obtain ⟨v', vs, rfl, hs', hv⟩ := argsV_row (z := 8) (xs := ops.map gOp) rfl (by simp) hv
    obtain rfl := argsV_nil hv
    exact look_spec w' m hm b L Lb p hL hof hg.ris (by omega) v' ops hops hs'
  by_cases hlk : lookE p.ds p.fr [] ops = 0
  case neg =>
    simp (maxSteps := 2000000) only [retS, bne_iff_ne.2 hlk, vc_ret, vc_seq, vc_rg, vc_ite, thenQ_n, thenQ_r, kKeep_eq, finQ_r, segs_nil, segs_n, ops_nil, ops_cons, vcOp, ev, look, put_mk, keep_mk, keepL, binV, binC, Value.oneCell', cond_true, Nat.reduceEqDiff, ↓reduceIte, reduceCtorEq, Bool.true_and, true_and, ↓br_tt]
    exact fin_m m rfl (fun _ _ h => h) ⟨fun _ => ⟨rfl, hL⟩, fun h => absurd h hlk⟩
  simp (maxSteps := 2000000) only [retS, hlk, Int.reduceBNe, vc_skip, vc_seq, vc_rg, vc_ite, thenQ_n, kKeep_eq, segs_nil, segs_n, ops_nil, ops_cons, vcOp, ev, look, put_mk, keep_mk, keepL, binV, binC, Value.oneCell', cond_true, Nat.reduceEqDiff, ↓reduceIte, reduceCtorEq, Bool.true_and, true_and, ↓br_ft]
  refine call_ownm rfl rfl (Q := fun rs m' => ∃ v', rs = [.s v'] ∧ SlO m' v' 26 8 (ops.map gOp)) (fun w' vs hv hw _ _ => ?_) fun rs mN _ hq1 hdN => ?_
  · obtain ⟨v1, vs, rfl, k1, hv⟩ := argsV_row (z := 8) (xs := ops.map gOp) rfl (by simp) hv
    obtain rfl := argsV_nil hv
    exact cloneO_spec w' v1 ops (by omega) w'.ph (fun _ _ h => h) k1
  obtain ⟨vn, rfl, hN⟩ := hq1
  simp (maxSteps := 2000000) only [retS, vc_seq, vc_rg, thenQ_n, kKeep_eq, segs_nil, segs_n, ops_nil, ops_cons, vcOp, ev, look, put_mk, keep_mk, keepL, ↓reduceIte, reduceCtorEq]
  have hlook := looked hlk
  refine call_with mN m (dOk_spec rfl) rfl rfl hdN (Q := fun rs m' => rs = [] ∧ ∃ cs' : List Op, cs'.Perm ops ∧ Rising (cs'.map Op.k) ∧ SlO m' vn 26 8 (cs'.map gOp)) (fun w' vs hv _ _ => ?_) fun rs mN' _ hq1 hdN' => ?_
  · obtain ⟨vs, rfl, _, hv⟩ := argsV_g hv
    obtain ⟨vs, rfl, _, hv⟩ := argsV_g hv
    obtain rfl := argsV_nil hv
    exact sortO_spec w' vn ops mN hN (by omega) hlook.nod
  obtain ⟨rfl, news, hpn, hrn, hN'⟩ := hq1
  have hnl := hpn.length_eq
  simp (maxSteps := 2000000) only [retS, vc_seq, vc_rg, thenQ_n, kKeep_eq, segs_nil, segs_n, ops_nil, ops_cons, vcOp, look, put_mk, keep_mk, keepL, Nat.reduceEqDiff, ↓reduceIte, reduceCtorEq]
  refine gh_seq (gh_frz rfl hdN' ?_)
  refine gh_rk 7 7 (gOp zOp) rfl rfl hN'.toR (KN.mem (by simp)) ?_
  obtain ⟨ov, mT0, mB0, hSo, _, _, hs⟩ := hL.look
  have hS3 : ∀ {ph : List PH}, Seen ⟨Tryz.prog, 153, w, m⟩ ph m b 3 (.s ov) := fun {ph} => (hs (C := ⟨Tryz.prog, 153, w, m⟩) (ph := ph) (m' := m) (KN.mem (by simp))).2.2.2.1
  simp (maxSteps := 2000000) only [ops_cons, vcOp, ev, look, put_mk, ↓reduceIte, reduceCtorEq, Nat.zero_add, List.length_map]
  refine ld_of _ hS3 rfl ?_
  obtain ⟨ao, co, hov⟩ := slr_len hSo
  have hov2 : ov = .slice ao p.ds.length co := by rw [hov, List.length_map]
  have tail : ∀ σ : SS, Ge σ ⟨[(0, .g (.s (.pointer (some ⟨b, 0, none⟩)))), (7, .row 7 0 (news.length)), (8, .g (.s (.int .i64 (frontA p.ds news))))], [(7, .ro 8 (gOp zOp) (news.map gOp))], [mN'], m⟩ → vc ⟨Tryz.prog, 153, w, m⟩ c_oplog_Log_Add_R11 (finQ ⟨Tryz.prog, 153, w, m⟩ [.tmp 4, .tmp 5] (AddQ b L Lb p kb q ops)) σ := by
    intro σ hσ
    unfold c_oplog_Log_Add_R11
    rw [vc_seq]
    refine vc_gh_of_ge hσ ?_
    simp (maxSteps := 2000000) only [vc_rg, segs_n, ops_cons, vcOp, ev, look, put_mk, ↓reduceIte, Nat.zero_add]
    refine ld_of _ hS3 rfl ?_
    simp (maxSteps := 2000000) only [ops_cons, vcOp, ev, look, put_mk, Nat.reduceEqDiff, ↓reduceIte, reduceCtorEq]
    refine gh_id ?_
    have hfl := frontA_le p.ds news
    refine ops_sl (l := frontA p.ds news) (h := p.ds.length) rfl hSo rfl (fun d hd => by rw [hd, List.length_map]; rfl) hfl (by simp) fun v54 hv1 hv2 => ?_
    rw [List.take_of_length_le (by simp)] at hv2
    simp (maxSteps := 2000000) only [ops_cons, vcOp, put_mk]
    refine call_ownm rfl rfl (Q := fun rs m' => ∃ v', rs = [.s v'] ∧ SlO m' v' 97 22 ((p.ds.drop (frontA p.ds news)).map gDone)) (fun w' vs hv _ _ hm => ?_) fun rs mD _ hq1 hdD => ?_
    · obtain ⟨vs, rfl, _, hv⟩ := argsV_g hv
      obtain rfl := argsV_nil hv
      rw [← List.map_drop] at hv2
      exact cloneD_spec w' v54 _ (by simp; omega) m hm hv2
    obtain ⟨vo, rfl, hD⟩ := hq1
    have hD1 := hD.one
    simp (maxSteps := 2000000) only [retS, vc_seq, vc_rg, thenQ_n, kKeep_eq, segs_nil, segs_n, ops_nil, ops_cons, vcOp, ev, look, put_mk, keep_mk, keepL, Nat.reduceEqDiff, ↓reduceIte, reduceCtorEq]
    refine gh_own 9 9 (gDone zDone) rfl rfl hD rfl hdD ?_
    simp (maxSteps := 2000000) only [List.length_map, vc_block, thenQ_n, kKeep_eq, segs_nil, ops_nil, ops_cons, vcOp, ev, look, put_mk, keep_mk, keepL, binV, binC, Value.oneCell', cond_true, Nat.reduceEqDiff, ↓reduceIte, reduceCtorEq, Bool.true_and, true_and, List.length_map]
    generalize hf : frontA p.ds news = f at *
    have hol : (p.ds.drop f).length = p.ds.length - f := List.length_drop
    refine vc_loop (ι := Nat × Lay × PT × PH) (fun x => ⟨[(0, .g (.s (.pointer (some ⟨b, 0, none⟩)))), (7, .row 7 0 (news.length)), (8, .g (.s (.int .i64 (f)))), (9, .row 9 0 ((p.ds.drop f).length)), (10, .g (.s (.int .i64 ((x.1 : Int) - 1))))], [(9, .row 97 22 (gDone zDone) ((p.ds.drop f).map gDone)), (7, .ro 8 (gOp zOp) (news.map gOp))], [mN'], x.2.2.2⟩)
      (fun x => x.1 ≤ (p.ds.drop f).length ∧ x.2.1 .t = L .t ∧ x.2.1 .mk = L .mk ∧ LogM x.2.2.2 b x.2.1 Lb { p with T := x.2.2.1 } ∧ Fl (ptr (L .mk)) p.B p.i0 q x.2.2.1 (p.ds.take (f + x.1))) (fun x => x.1) ((p.ds.drop f).length, L, p.T, m)
      ⟨Nat.le_refl _, rfl, rfl, hL, by simp only; rw [hol, show f + (p.ds.length - f) = p.ds.length by omega, List.take_length]; exact hg.fl⟩ (ge_of ?_ ?_ rfl rfl rfl) ?_
    · simp only [frIn, look, Nat.reduceEqDiff, ↓reduceIte, reduceCtorEq, Bool.and_true, Bool.true_and, true_and, and_true]
      rw [wrap64 (by omega) (by omega)]
      try simp
    · simp [pvIn, look]
    rintro ⟨r, L1, T1, m1⟩ ⟨hr, hL1, hL2, hM, hF⟩
    simp only at hr hL1 hL2 hM hF
    generalize hQ : loopQ _ _ _ _ _ = Q
    simp (maxSteps := 2000000) only [c_oplog_Log_Add_L0, vc_skip, vc_exit, vc_seq, vc_block, vc_rg, vc_rgq, vc_ite, thenQ_n, thenQ_e, kKeep_eq, segs_nil, segs_n, ops_nil, ops_cons, qsegs_n, qops_cons, vcqOp, vcOp, isRd, ev, look, put_mk, keep_mk, keepL, binV, binC, Value.oneCell', cond_true, Nat.reduceEqDiff, ↓reduceIte, reduceCtorEq, Nat.add_zero, Bool.true_and, true_and, decide_eq_true_eq, decide_eq_false_iff_not, br_t]
    refine ⟨fun hge0 => ?_, fun hlt0 => ?_⟩
    · obtain ⟨ov1, _, _, _, _, _, hs1⟩ := hM.look
      have hS0 := (hs1 (C := ⟨Tryz.prog, 153, w, m⟩) (ph := [mN']) (m' := m1) (KN.mem (by simp))).1
      refine ld_of _ hS0 rfl ?_
      rw [hL1]
      have hn1 : ((r : Int) - 1).toNat = r - 1 := by omega
      simp (maxSteps := 2000000) only [ptr, segs_n, ops_cons, qsegs_nil, qops_nil, qops_cons, vcqOp, vcOp, isRd, ev, look, put_mk, rowE, rowD, Nat.reduceEqDiff, ↓reduceIte, reduceCtorEq, List.nil_append, Nat.zero_add, Bool.true_and, true_and, getT_nil, gUndo_fits, ptr, gDone_fld2, gDone_get2, getD_gDone]
      refine ⟨⟨by omega, by omega⟩, ?_⟩
      rw [hn1]
      have hlt : f + (r - 1) < p.ds.length := by omega
      obtain ⟨d, hd⟩ : ∃ d, (p.ds.drop f).getD (r - 1) zDone = d := ⟨_, rfl⟩
      have hd2 : p.ds.getD (f + (r - 1)) zDone = d := by rw [← hd, List.getD_eq_getElem?_getD, List.getD_eq_getElem?_getD, List.getElem?_drop]
      have htk : p.ds.take (f + r) = p.ds.take (f + (r - 1)) ++ [d] := by rw [← hd2, ← take_at hlt, show f + (r - 1) + 1 = f + r by omega]
      rw [htk] at hF
      rw [hd]
      obtain ⟨mT, mr, hm1, hdm, hT, hback⟩ := hM.tree
      have hids := hF.ids
      have hB := hF.back hg.bok fun x hx => hg.ops x (List.mem_of_mem_take hx)
      obtain ⟨T2, hT2, hF2⟩ : ∃ T2, (∀ w', Spec Tryz.prog f_tree_Tree_Back [ptr (L1 .t), (gUndo d.undo).val] mT w' fun rs m' => rs = [.s (.int .i64 0)] ∧ TM m' L1 T2) ∧ Fl (ptr (L .mk)) p.B p.i0 q T2 (p.ds.take (f + (r - 1))) := by
        rcases hB with ⟨h1, h2⟩ | ⟨h1, h2, h3, h4⟩
        · refine ⟨T1, fun w' => ?_, h2⟩
          rw [h1]
          exact Back_zero w' mT L1 T1 hT
        · exact ⟨T1.undone d.undo, fun w' => (Back_spec w' mT L1 T1 d.undo (by rw [h1, hL2]; rfl) hT (by omega) (fun _ => h3)).mono fun rs m' h => h.1 h2, h4⟩
      refine call_with mT mr (dOk_spec rfl) rfl hm1 hdm (Q := fun rs m' => rs = [.s (.int .i64 0)] ∧ TM m' L1 T2) (fun w' vs hv _ _ => ?_) fun rs mT' _ hq1 hdT => ?_
      · obtain ⟨vs, rfl, _, hv⟩ := argsV_g hv
        obtain ⟨vs, rfl, _, hv⟩ := argsV_g hv
        obtain rfl := argsV_nil hv
        have := hT2 w'
        rw [hL1] at this
        exact this
      obtain ⟨rfl, hTn⟩ := hq1
      simp (maxSteps := 2000000) only [retS, vc_rg, thenQ_n, blockQ_n, kKeep_eq, segs_nil, segs_n, ops_nil, ops_cons, vcOp, ev, look, put_mk, keep_mk, keepL, binV, binC, Value.oneCell', cond_true, Nat.reduceEqDiff, ↓reduceIte, reduceCtorEq, Bool.true_and, true_and]
      subst hQ; simp only [loopQ_n]; refine ⟨(r - 1, L1, T2, uni mT' mr), ?_, ?_, ge_of ?_ ?_ rfl rfl rfl⟩
      · exact ⟨by simp only; omega, hL1, hL2, hback rfl hTn hdT, hF2⟩
      · simp only; omega
      · simp only [frIn, look, Nat.reduceEqDiff, ↓reduceIte, reduceCtorEq, Bool.and_true, Bool.true_and, true_and, and_true]
        rw [wrap64 (by omega) (by omega), show (((r - 1 : Nat) : Int) - 1) = (r : Int) - 1 - 1 by omega]
        try simp
      · simp [pvIn, look]
    · subst hQ
      obtain rfl : r = 0 := by omega
      simp (maxSteps := 2000000) only [vc_seq, vc_rg, thenQ_n, blockQ_e, loopQ_e, segs_n, ops_cons, vcOp, ev, look, put_mk, ↓reduceIte, reduceCtorEq, Nat.zero_add, ptr]
      obtain ⟨ov1, e1, mo, mr, hm1, hdm, hO, hb1, hs1, hmk⟩ := hM.list
      refine ld_of _ (hs1 (KN.mem (by simp))) rfl ?_
      simp (maxSteps := 2000000) only [ops_cons, vcOp, ev, look, put_mk, Nat.reduceEqDiff, ↓reduceIte, reduceCtorEq]
      refine gh_id ?_
      refine ops_take (h := f) rfl hO (fun d => rfl) (by simp; omega) fun v81 hv1 hv2 => ?_
      simp (maxSteps := 2000000) only [ops_cons, vcOp, ev, look, put_mk, Nat.reduceEqDiff, ↓reduceIte, reduceCtorEq, Nat.zero_add]
      have hbm := uni_r hdm hb1
      rw [← hm1] at hbm
      refine st_of rfl _ e1 ⟨hbm.1, by simp⟩ ?_
      simp (maxSteps := 2000000) only [ops_cons, vcOp, ev, look, put_mk, put_mk0, Nat.reduceEqDiff, ↓reduceIte, Nat.zero_add, ptr]
      refine st_of rfl _ e1 ⟨upd_self _ _ _, by simp [writeAt, GV.flat]⟩ ?_
      simp (maxSteps := 2000000) only [vc_seq, vc_rg, thenQ_n, kKeep_eq, segs_nil, segs_n, ops_nil, ops_cons, vcOp, look, put_mk0, keep_mk, keepL, Nat.reduceEqDiff, ↓reduceIte, reduceCtorEq]
      intro bf of hof1 hdf
      simp (maxSteps := 2000000) only [vc_seq, vc_block, vc_rg, thenQ_n, kKeep_eq, segs_nil, segs_n, ops_nil, ops_cons, vcOp, ev, look, put_mk, keep_mk, keepL, Value.oneCell', cond_true, Nat.reduceEqDiff, ↓reduceIte, reduceCtorEq]
      rw [upd_upd2, hm1, uni_upd hbm.2] at hdf ⊢
      have hv3 : SlO mo v81 97 22 ((p.ds.take f).map gDone) := by rw [List.map_take]; exact hv2
      have hM2 := hmk (ds' := p.ds.take f) (fr' := p.fr) (red' := ((p.ds.drop f).length : Int)) hv3 hdm
      generalize hm2 : uni mo (mr.upd b _) = m2 at hdf ⊢
      have em2 : uni mo (mr.upd b (logC L1 Lb p.fr v81 ((p.ds.drop f).length : Int) e1)) = m2 := by rw [← hm2]; rfl
      simp only [em2] at hM2
      have hdf : dis (one bf of) m2 := hdf
      refine vc_loop (ι := Nat × Obj) (fun x => ⟨[(0, .g (.s (.pointer (some ⟨b, 0, none⟩)))), (9, .row 9 0 ((p.ds.drop f).length + x.1)), (11, .g (.s (.map (some bf)))), (89, .row 7 0 (news.length)), (90, .g (.s (.int .i64 (news.length)))), (91, .g (.s (.int .i64 (x.1))))], [(9, .row 97 22 (gDone zDone) ((p.ds.drop f ++ (news.take x.1).map fresh).map gDone)), (7, .ro 8 (gOp zOp) (news.map gOp))], [mN'], uni (one bf x.2) m2⟩)
        (fun x => x.1 ≤ news.length ∧ Map2 x.2 (cnt ((news.take x.1).map Op.k))) (fun x => news.length - x.1) (0, of) ⟨Nat.zero_le _, mapI_2 (hof1 none)⟩ (ge_of ?_ ?_ rfl rfl rfl) ?_
      · simp [frIn, look]
      · simp [pvIn, look]
      have hdf2 : ∀ o, dis (one bf o) m2 := fun o k => by
        rcases hdf k with h | h
        · simp only [one] at h ⊢
          split at h
          · cases h
          · rename_i hk; left; rw [if_neg hk]
        · exact .inr h
      rintro ⟨j, o⟩ ⟨hj, hmo⟩
      simp only at hj hmo
      generalize hQ : loopQ _ _ _ _ _ = Q
      simp (maxSteps := 2000000) only [c_oplog_Log_Add_L1, vc_skip, vc_exit, vc_seq, vc_block, vc_rg, vc_rga, vc_ite, thenQ_n, thenQ_e, kKeep_eq, segs_nil, segs_n, ops_nil, ops_cons, ot_op, ot_or, vcOp, ev, look, updL, put_mk, put_mk0, keep_mk, keepL, rowE, rowD, binV, binC, Nat.reduceEqDiff, ↓reduceIte, reduceCtorEq, List.nil_append, Nat.zero_add, Bool.and_true, Bool.true_and, true_and, and_true, Int.toNat_natCast, decide_eq_true_eq, decide_eq_false_iff_not, br_t, getT_nil, setT_nil, gStamp_fits, gStamp_zero, gOp_sz, gOp_fits, gOp_same, gOp_fld0, gOp_get0, gOp_zero, getD_gOp]
      refine ⟨fun hlt => ⟨⟨by omega, by omega⟩, ?_⟩, fun hge => ?_⟩
      · have hjl : j < news.length := by omega
        obtain ⟨op, hop⟩ : ∃ op, news.getD j zOp = op := ⟨_, rfl⟩
        have htk : news.take (j + 1) = news.take j ++ [op] := by rw [take_at hjl zOp, hop]
        rw [hop]
        have hks : op.k ∉ (news.take j).map Op.k := by
          have hnd : ((news.take (j + 1)).map Op.k).Nodup := by
            have : (news.map Op.k).Nodup := (hpn.map _).nodup_iff.2 hlook.nod
            exact this.sublist ((List.take_sublist _ _).map _)
          rw [htk, List.map_append, List.nodup_append] at hnd
          exact fun hm => hnd.2.2 _ hm _ (by simp) rfl
        generalize hkk : (news.take j).map Op.k = ks at hmo hks
        have tail2 : ∀ o', Map2 o' (mput2 (cnt ks) op.k (.int .i64 (cntV ks op.k))) → ∀ σ : SS, Ge σ ⟨[(0, .g (.s (.pointer (some ⟨b, 0, none⟩)))), (9, .row 9 0 ((p.ds.drop f).length + j)), (11, .g (.s (.map (some bf)))), (13, .ref 13 []), (89, .row 7 0 (news.length)), (90, .g (.s (.int .i64 (news.length)))), (91, .g (.s (.int .i64 (j))))], [(9, .row 97 22 (gDone zDone) ((p.ds.drop f ++ (news.take j).map fresh).map gDone)), (7, .ro 8 (gOp zOp) (news.map gOp)), (13, .box (gOp op))], [mN'], uni (one bf o') m2⟩ →
            vc ⟨Tryz.prog, 153, w, m⟩ c_oplog_Log_Add_R22 (blockQ 3 (thenQ (vc ⟨Tryz.prog, 153, w, m⟩ (.rg [⟨none, [(some 107, .bin .add (.t 91) (.c (.int .i64 1))), (some 91, .mv (.t 107))]⟩] [0, 9, 11, 89, 90, 91]) Q) Q)) σ := by
          intro o' ho' σ hσ
          rw [mput_fresh hks] at ho'
          unfold c_oplog_Log_Add_R22
          refine vc_gh_of_ge hσ ?_
          simp (maxSteps := 2000000) only [GV.bldC, GV.bldT, vc_rg, thenQ_n, blockQ_n, kKeep_eq, segs_nil, segs_n, ops_nil, ops_cons, vcOp, ev, evL, gvL, look, updL, put_mk, keep_mk, keepL, rowE, binV, binC, Value.oneCell', cond_true, cond_false, Nat.reduceEqDiff, Nat.reduceBEq, ↓reduceIte, reduceCtorEq, Nat.zero_add, Bool.and_true, Bool.true_and, BEq.rfl, true_and, and_true, List.map_cons, List.map_nil, Option.map_some, szAll, List.length_cons, List.length_nil, kill, SV.mentions, ne_eq, not_false_eq_true, List.drop_zero, List.take_succ_cons, List.take_zero, GV.bldT, GV.bldC, getT_nil, List.length_map, gStamp_zero, gOp_fits, gOp_same, gOp_zero, gPlace_zero, gUndo_zero, gDone_sz, gDone_get0, gDone_set0, gDone_zero]
          refine ⟨rfl, by simp; omega, by omega, ?_⟩
          subst hQ; simp only [loopQ_n]; refine ⟨(j + 1, o'), ?_, ?_, ge_of ?_ ?_ rfl rfl rfl⟩
          · refine ⟨by simp only; omega, ?_⟩
            simp only
            rw [htk, List.map_append, hkk]
            exact ho'
          · simp only; omega
          · simp only [frIn, look, Nat.reduceEqDiff, ↓reduceIte, reduceCtorEq, Bool.and_true, Bool.true_and, true_and, and_true]
            rw [wrap_n (by omega)]
            try simp
            try omega
          · simp only [pvIn, look, Nat.reduceEqDiff, ↓reduceIte, Bool.and_true, and_true]
            rw [htk]
            simp [fresh, zDone]
        have hgt := cnt_get ks op.k
        have hw := cnt_wrap ks op.k
        have hbfs : ∀ o, uni (one bf o) m2 bf = some o := fun o => sub_uni_l _ _ _ _ (one_self _ _)
        refine ⟨⟨op.k, o, _, rfl, .inl (hbfs o), hmo, ?_⟩, ?_⟩
        · simp (maxSteps := 2000000) only [lkS2, hgt, segs_nil, segs_n, ops_nil, ops_cons, ot_op, vcOp, ev, look, put_mk, binV, binC, Value.oneCell', cond_true, cond_false, Nat.reduceEqDiff, ↓reduceIte, Bool.true_and, true_and]
          refine ⟨op.k, o, _, rfl, hbfs o, hmo, fun o1 β ho1 hb1 => ?_⟩
          simp (maxSteps := 2000000) only [uni_one_upd, List.getElem?_cons_succ, List.getElem?_cons_zero, segs_nil, segs_n, ops_nil, ops_cons, ot_op, vcOp, ev, look, put_mk, Nat.reduceEqDiff, ↓reduceIte]
          refine ⟨op.k, o1, _, β, rfl, hbfs o1, ho1, hb1, fun o2 ho2 => ?_⟩
          rw [mput2_ens, hw] at ho2
          simp (maxSteps := 2000000) only [uni_one_upd, thenQ_n, kKeep_eq, segs_nil, ops_nil, ot_done, look, put_mk0, keep_mk, keepL, Nat.reduceEqDiff, ↓reduceIte, reduceCtorEq]
          exact tail2 o2 ho2 _ (ge_of (by simp [frIn, look]) (by simp [pvIn, look]) rfl rfl rfl)
        · refine ⟨op.k, o, _, rfl, hbfs o, hmo, fun o1 β ho1 hb1 => ?_⟩
          simp (maxSteps := 2000000) only [uni_one_upd, List.getElem?_cons_succ, List.getElem?_cons_zero, segs_nil, segs_n, ops_nil, ops_cons, ot_op, vcOp, ev, look, put_mk, Nat.reduceEqDiff, ↓reduceIte]
          refine ⟨op.k, o1, _, rfl, .inl (hbfs o1), ho1, ?_⟩
          simp (maxSteps := 2000000) only [lkS2, mget2_ens, hgt, segs_nil, segs_n, ops_nil, ops_cons, ot_op, vcOp, ev, look, put_mk, binV, binC, Value.oneCell', cond_true, cond_false, Nat.reduceEqDiff, ↓reduceIte, Bool.true_and, true_and]
          refine ⟨op.k, o1, _, β, rfl, hbfs o1, ho1, hb1, fun o2 ho2 => ?_⟩
          rw [mput2_ens, hw] at ho2
          simp (maxSteps := 2000000) only [uni_one_upd, thenQ_n, kKeep_eq, segs_nil, ops_nil, ot_done, look, put_mk0, keep_mk, keepL, Nat.reduceEqDiff, ↓reduceIte, reduceCtorEq]
          exact tail2 o2 ho2 _ (ge_of (by simp [frIn, look]) (by simp [pvIn, look]) rfl rfl rfl)
      · subst hQ
        obtain rfl : j = news.length := by omega
        rw [List.take_length] at hmo
        simp (maxSteps := 2000000) only [List.take_length, vc_seq, vc_rg, thenQ_n, blockQ_e, loopQ_e, segs_n, ops_cons, vcOp, ↓reduceIte]
        refine gh_pub 9 9 _ rfl rfl (by simp) fun v9 uD ho9 hs9 hd9 => ?_
        simp (maxSteps := 2000000) only [ops_cons, vcOp, ev, look, put_mk, cond_true, cond_false, Nat.reduceBEq, ↓reduceIte, BEq.rfl, kill, SV.mentions]
        have hd9 : dis uD (uni (one bf o) m2) := hd9
        refine call_with uD (uni (one bf o) m2) (dOk_spec rfl) rfl rfl hd9 (Q := fun rs m' => rs = [] ∧ ∃ cs : List Done, cs.Perm (p.ds.drop f ++ news.map fresh) ∧ Rising (cs.map Done.k) ∧ SlO m' v9 97 22 (cs.map gDone)) (fun w' vs hv _ _ => ?_) fun rs uD' _ hq1 hdD' => ?_
        · obtain ⟨vs, rfl, _, hv⟩ := argsV_g hv
          obtain ⟨vs, rfl, _, hv⟩ := argsV_g hv
          obtain rfl := argsV_nil hv
          refine sortD_spec w' v9 _ (fun d hd => ?_) uD hs9 (by simp; omega) (placed_nodup hg.ris hlook hpn f)
          rcases List.mem_append.1 hd with hd | hd
          · exact hof d (List.mem_of_mem_drop hd)
          · obtain ⟨op, _, rfl⟩ := List.mem_map.1 hd
            rfl
        obtain ⟨rfl, cs, hpc, hrc, hcs⟩ := hq1
        simp (maxSteps := 2000000) only [retS, vc_seq, vc_rg, thenQ_n, kKeep_eq, segs_nil, segs_n, ops_nil, ops_cons, vcOp, ev, look, put_mk, keep_mk, keepL, Value.oneCell', cond_true, Nat.reduceEqDiff, ↓reduceIte, reduceCtorEq]
        refine gh_seq (gh_frz rfl hdD' ?_)
        refine gh_seq (gh_frz rfl (hdf2 o) ?_)
        refine gh_rk 9 9 (gDone zDone) rfl rfl hcs.toR (KN.mem (by simp)) ?_
        simp (maxSteps := 2000000) only [List.length_map, vc_block, thenQ_n, kKeep_eq, segs_nil, ops_nil, ops_cons, vcOp, ev, look, put_mk, keep_mk, keepL, Value.oneCell', cond_true, Nat.reduceEqDiff, ↓reduceIte, reduceCtorEq, List.length_map]
        have hcl : cs.length = (p.ds.length - f) + news.length := by rw [hpc.length_eq, List.length_append, hol, List.length_map]
        have hco : ∀ d ∈ cs, OpOk d.op := fun d hd => by
          rcases List.mem_append.1 (hpc.mem_iff.1 hd) with hd | hd
          · exact hg.ops d (List.mem_of_mem_drop hd)
          · obtain ⟨op, hop, rfl⟩ := List.mem_map.1 hd
            exact (hops.2 op (hpn.mem_iff.1 hop)).2
        have hqd : kb + p.ds.length ≤ q := hg.many
        refine vc_loop (ι := Nat × Lay × PT × PH × List Done) (fun x => ⟨[(0, .g (.s (.pointer (some ⟨b, 0, none⟩)))), (11, .g (.s (.map (some bf)))), (14, .g (.s (.int .i64 ((x.2.2.2.2.filter fun d => d.taken && decide (d.k ∈ ops.map Op.k)).length)))), (110, .row 9 0 (cs.length)), (111, .g (.s (.int .i64 (cs.length)))), (112, .g (.s (.int .i64 (x.1))))], [(9, .ro 22 (gDone zDone) (cs.map gDone))], [one bf o, uD', mN'], x.2.2.2.1⟩)
          (fun x => x.1 ≤ cs.length ∧ x.2.1 .t = L .t ∧ x.2.1 .mk = L .mk ∧ LogM x.2.2.2.1 b x.2.1 Lb { p with T := x.2.2.1, ds := p.ds.take f ++ x.2.2.2.2, red := ((p.ds.drop f).length : Int) } ∧ x.2.2.2.2.map (·.op) = (cs.take x.1).map (·.op) ∧ Fl (ptr (L .mk)) p.B p.i0 (q + x.1) x.2.2.1 (p.ds.take f ++ x.2.2.2.2)) (fun x => cs.length - x.1) (0, L1, T1, m2, [])
          ⟨Nat.zero_le _, hL1, hL2, by simpa using hM2, rfl, by simpa using hF⟩ (ge_of ?_ ?_ rfl rfl rfl) ?_
        · simp [frIn, look]
        · simp [pvIn, look]
        rintro ⟨i, L3, T3, m3, rs⟩ ⟨hi, hL3, hL4, hM3, hrs, hF3⟩
        simp only at hi hL3 hL4 hM3 hrs hF3
        have hrl : rs.length = i := by
          have := congrArg List.length hrs
          simpa [Nat.min_eq_left hi] using this
        generalize hQ : loopQ _ _ _ _ _ = Q
        simp (maxSteps := 2000000) only [c_oplog_Log_Add_L2, vc_skip, vc_exit, vc_seq, vc_block, vc_rg, vc_rga, vc_ite, thenQ_n, thenQ_e, kKeep_eq, segs_nil, segs_n, ops_nil, ops_cons, ot_op, ot_or, vcOp, ev, look, updL, put_mk, put_mk0, keep_mk, keepL, rowE, rowD, binV, binC, Nat.reduceEqDiff, ↓reduceIte, reduceCtorEq, List.nil_append, Nat.zero_add, Nat.add_zero, Bool.and_true, Bool.true_and, true_and, and_true, Int.toNat_natCast, decide_eq_true_eq, decide_eq_false_iff_not, br_t, getT_nil, setT_nil, gStamp_zero, gOp_fits, gOp_zero, gPlace_zero, gUndo_zero, gDone_sz, gDone_fits, gDone_same, gDone_fld0, gDone_get0, gDone_zero, getD_gDone]
        refine ⟨fun hlt => ⟨⟨by omega, by omega⟩, ?_⟩, fun hge => ?_⟩
        · have hil : i < cs.length := by omega
          obtain ⟨d, hd⟩ : ∃ d, cs.getD i zDone = d := ⟨_, rfl⟩
          have hdm2 : d ∈ cs := hd ▸ getD_in hil zDone
          rw [hd]
          obtain ⟨ov3, _, _, _, _, _, hs3⟩ := hM3.look
          have hS0 := (hs3 (C := ⟨Tryz.prog, 153, w, m⟩) (ph := [one bf o, uD', mN']) (m' := m3) (KN.mem (by simp))).1
          rw [hL3] at hS0
          obtain ⟨mT, mr3, hm3, hdm3, hT3, hback⟩ := hM3.tree
          have hol3 : ∀ x ∈ p.ds.take f ++ rs, OpOk x.op := fun x hx => by
            rcases List.mem_append.1 hx with hx | hx
            · exact hg.ops x (List.mem_of_mem_take hx)
            · have : x.op ∈ (cs.take i).map (·.op) := by rw [← hrs]; exact List.mem_map.2 ⟨x, hx, rfl⟩
              obtain ⟨y, hy, e⟩ := List.mem_map.1 this
              rw [← e]
              exact hco y (List.mem_of_mem_take hy)
          have htok := hF3.tok hg.bok hol3 (by simp; omega)
          obtain ⟨d', T4, hd4, hdo, hF4⟩ : ∃ (d' : Done) (T4 : PT), d'.op = d.op ∧ (∀ w', Spec Tryz.prog f_tree_Tree_Do [ptr (L3 .t), (gOp d.op).val] mT w' fun rs' m' => rs' = [gUndo d'.undo, .s (.bool d'.taken)] ∧ ∃ L4, L4 .t = L3 .t ∧ L4 .mk = L3 .mk ∧ TM m' L4 T4) ∧ Fl (ptr (L .mk)) p.B p.i0 (q + (i + 1)) T4 (p.ds.take f ++ (rs ++ [d'])) := by
            cases hmay : mayA T3 d.op with
            | false => exact ⟨⟨d.op, false, zUndo⟩, T3, rfl, fun w' => (Do_spec w' mT L3 T3 d.op (hco d hdm2).2 (ok_fits htok (by omega)) hT3).mono fun rs' m' h => ⟨(h.1 hmay).1, L3, rfl, rfl, (h.1 hmay).2⟩, by rw [← List.append_assoc]; exact hF3.no hg.bok hol3 hmay⟩
            | true => exact ⟨⟨d.op, true, T3.undo (ptr (L .mk)) d.op⟩, T3.does d.op, rfl, fun w' => (Do_spec w' mT L3 T3 d.op (hco d hdm2).2 (ok_fits htok (by omega)) hT3).mono fun rs' m' h => by
                obtain ⟨L4, h1, h2, h3, h4⟩ := h.2 hmay
                exact ⟨by rw [h3, hL4], L4, h1, h2, h4⟩, by rw [← List.append_assoc]; exact hF3.yes hg.bok hol3 (hco d hdm2) hmay⟩
          have hdk : d'.k = d.k := by show d'.op.k = d.op.k; rw [hd4]
          have hmemk : d.k ∈ news.map Op.k ↔ d'.k ∈ ops.map Op.k := by rw [hdk]; exact (hpn.map _).mem_iff
          have tail3 : ∀ (L4 : Lay) (m4 : PH), L4 .t = L .t → L4 .mk = L .mk → LogM m4 b L4 Lb { p with T := T4, ds := p.ds.take f ++ rs, red := ((p.ds.drop f).length : Int) } →
              ∀ σ : SS, Ge σ ⟨[(0, .g (.s (.pointer (some ⟨b, 0, none⟩)))), (11, .g (.s (.map (some bf)))), (14, .g (.s (.int .i64 ((rs.filter fun d => d.taken && decide (d.k ∈ ops.map Op.k)).length)))), (16, .ref 16 []), (110, .row 9 0 (cs.length)), (111, .g (.s (.int .i64 (cs.length)))), (112, .g (.s (.int .i64 (i))))], [(9, .ro 22 (gDone zDone) (cs.map gDone)), (16, .box (gDone d'))], [one bf o, uD', mN'], m4⟩ →
              vc ⟨Tryz.prog, 153, w, m⟩ c_oplog_Log_Add_R30 (blockQ 5 (thenQ (vc ⟨Tryz.prog, 153, w, m⟩ (.rg [⟨none, [(some 151, .bin .add (.t 112) (.c (.int .i64 1))), (some 112, .mv (.t 151))]⟩] [0, 11, 14, 110, 111, 112]) Q) Q)) σ := by
            intro L4 m4 hL5 hL6 hM4 σ hσ
            unfold c_oplog_Log_Add_R30
            rw [vc_seq, vc_seq]
            refine vc_gh_of_ge hσ ?_
            have tail4 : ∀ n : Nat, n = ((rs ++ [d']).filter fun d => d.taken && decide (d.k ∈ ops.map Op.k)).length →
                ∀ σ : SS, Ge σ ⟨[(0, .g (.s (.pointer (some ⟨b, 0, none⟩)))), (11, .g (.s (.map (some bf)))), (14, .g (.s (.int .i64 (n)))), (16, .ref 16 []), (110, .row 9 0 (cs.length)), (111, .g (.s (.int .i64 (cs.length)))), (112, .g (.s (.int .i64 (i))))], [(9, .ro 22 (gDone zDone) (cs.map gDone)), (16, .box (gDone d'))], [one bf o, uD', mN'], m4⟩ →
                vc ⟨Tryz.prog, 153, w, m⟩ c_oplog_Log_Add_R32 (blockQ 5 (thenQ (vc ⟨Tryz.prog, 153, w, m⟩ (.rg [⟨none, [(some 151, .bin .add (.t 112) (.c (.int .i64 1))), (some 112, .mv (.t 151))]⟩] [0, 11, 14, 110, 111, 112]) Q) Q)) σ := by
              intro n hn' σ hσ
              unfold c_oplog_Log_Add_R32
              refine vc_gh_of_ge hσ ?_
              obtain ⟨ov4, e4, mo4, mr4, hm4, hdm4, hO4, hb4, hs4, hmk4⟩ := hM4.list
              have hS4 := hs4 (C := ⟨Tryz.prog, 153, w, m⟩) (ph := [one bf o, uD', mN']) (m' := m4) (KN.mem (by simp))
              simp (maxSteps := 2000000) only [vc_rga, segs_nil, segs_n, ops_nil, ops_cons, ot_op, ot_or, vcOp, ev, evL, gvL, look, updL, put_mk, Nat.reduceEqDiff, ↓reduceIte, reduceCtorEq, Nat.zero_add, Bool.and_true, Bool.true_and, true_and, and_true, Option.map_some, szAll, List.length_cons, List.length_nil, getT_nil, gStamp_zero, gOp_zero, gPlace_zero, gUndo_zero, gDone_sz, gDone_fits, gDone_zero]
              refine ⟨ld_of _ hS4 rfl ?_, ld_of _ hS4 rfl ?_, ld_of _ hS4 rfl ?_⟩
              all_goals
                simp (maxSteps := 2000000) only [segs_nil, segs_n, ops_nil, ops_cons, ot_op, vcOp, ev, evL, gvL, look, updL, put_mk, rowE, Nat.reduceEqDiff, ↓reduceIte, reduceCtorEq, Nat.zero_add, Bool.and_true, Bool.true_and, true_and, and_true, Option.map_some, szAll, List.length_cons, List.length_nil, List.drop_zero, List.take_succ_cons, List.take_zero, getT_nil, gDone_sz, gDone_fits]
                refine app_of rfl rfl mo4 mr4 _ hO4 hm4 hdm4 (by simp; omega) fun v5 u5 ho5 hs5 hd5 => ?_
                simp (maxSteps := 2000000) only [segs_nil, segs_n, ops_nil, ops_cons, ot_op, vcOp, ev, look, put_mk, Nat.reduceEqDiff, ↓reduceIte, Nat.zero_add]
                have hb5 := (uni_r hd5 hb4)
                refine st_of rfl _ e4 ⟨hb5.1, by simp⟩ ?_
                simp (maxSteps := 2000000) only [vc_rg, thenQ_n, blockQ_n, kKeep_eq, segs_nil, segs_n, ops_nil, ops_cons, ot_done, vcOp, ev, look, put_mk, put_mk0, keep_mk, keepL, binV, binC, Value.oneCell', cond_true, Nat.reduceEqDiff, ↓reduceIte, reduceCtorEq, Bool.true_and, true_and, ptr]
                have hv5 : SlO u5 v5 97 22 ((p.ds.take f ++ (rs ++ [d'])).map gDone) := by
                  rw [← List.append_assoc, List.map_append]
                  exact hs5
                have hM5 := hmk4 (ds' := p.ds.take f ++ (rs ++ [d'])) (fr' := p.fr) (red' := ((p.ds.drop f).length : Int)) hv5 hd5
                rw [uni_upd hb5.2]
                subst hQ; simp only [loopQ_n]; refine ⟨(i + 1, L4, T4, uni u5 (mr4.upd b (logC L4 Lb p.fr v5 ((p.ds.drop f).length : Int) e4)), rs ++ [d']), ?_, ?_, ge_of ?_ ?_ rfl rfl rfl⟩
                · refine ⟨by simp only; omega, hL5, hL6, hM5, ?_, hF4⟩
                  simp only
                  rw [take_at hil zDone, hd, List.map_append, List.map_append, hrs, List.map_cons, List.map_nil, List.map_cons, List.map_nil, hd4]
                · simp only; omega
                · simp only [frIn, look, Nat.reduceEqDiff, ↓reduceIte, reduceCtorEq, Bool.and_true, Bool.true_and, true_and, and_true]
                  rw [wrap_n (by omega), hn']
                  try simp
                · simp [pvIn, look]
            have hcount : ((rs ++ [d']).filter fun d => d.taken && decide (d.k ∈ ops.map Op.k)).length = (rs.filter fun d => d.taken && decide (d.k ∈ ops.map Op.k)).length + (if (d'.taken && decide (d'.k ∈ ops.map Op.k)) = true then 1 else 0) := count_snoc _ rs d'
            have hle : (rs.filter fun d => d.taken && decide (d.k ∈ ops.map Op.k)).length ≤ rs.length := List.length_filter_le _ _
            cases htk : d'.taken with
            | false =>
              have e0 : (rs.filter fun d => d.taken && decide (d.k ∈ ops.map Op.k)).length = ((rs ++ [d']).filter fun d => d.taken && decide (d.k ∈ ops.map Op.k)).length := by rw [hcount, htk]; simp
              simp (maxSteps := 2000000) only [htk, vc_skip, vc_rg, vc_ite, thenQ_n, kKeep_eq, segs_nil, segs_n, segs_g, ops_nil, ops_cons, vcOp, RO.isGh, skip_mk, skipL, ev, look, put_mk, keep_mk, keepL, GV.getT, Value.oneCell', cond_true, cond_false, Nat.reduceEqDiff, ↓reduceIte, reduceCtorEq, List.nil_append, Bool.true_and, Bool.not_true, Bool.not_false, true_and, ↓br_ft, getT_nil, fits_s, gDone_fld1, gDone_get1]
              exact tail4 _ e0 _ (ge_of (by simp [frIn, look]) (by simp [pvIn, look]) rfl rfl rfl)
            | true =>
              simp (maxSteps := 2000000) only [htk, vc_rg, segs_n, segs_g, ops_nil, ops_cons, vcOp, ev, look, put_mk, GV.getT, Nat.reduceEqDiff, ↓reduceIte, reduceCtorEq, List.nil_append, List.cons_append, Bool.true_and, Bool.not_false, true_and, ↓br_tt, getT_nil, fits_s, gStamp_fits, gOp_fld0, gOp_get0, gDone_fld0, gDone_get0, gDone_fld1, gDone_get1]
              refine ⟨d'.k, o, _, rfl, .inr (.inl ⟨one bf o, by simp, one_self _ _⟩), hmo, ?_⟩
              rw [hdk]
              by_cases hin : d.k ∈ news.map Op.k
              · simp (maxSteps := 2000000) only [lkS2, mget_cnt, if_pos hin, Option.getD_some, Int.reduceGT, vc_rg, vc_ite, thenQ_n, kKeep_eq, segs_nil, segs_n, ops_nil, ops_cons, vcOp, ev, look, put_mk, keep_mk, keepL, binV, binC, Value.oneCell', cond_true, cond_false, Nat.reduceEqDiff, ↓reduceIte, reduceCtorEq, Bool.true_and, decide_true, true_and, ↓br_tt]
                have e1 : ((rs.filter fun d => d.taken && decide (d.k ∈ ops.map Op.k)).length : Int) + 1 = (((rs ++ [d']).filter fun d => d.taken && decide (d.k ∈ ops.map Op.k)).length : Nat) := by
                  rw [hcount, htk, decide_eq_true (hmemk.1 hin)]
                  simp
                rw [wrap64 (by omega) (by omega), e1]
                exact tail4 _ rfl _ (ge_of (by simp [frIn, look]) (by simp [pvIn, look]) rfl rfl rfl)
              · simp (maxSteps := 2000000) only [lkS2, mget_cnt, if_neg hin, Option.getD_none, Int.reduceGT, vc_skip, vc_ite, thenQ_n, kKeep_eq, segs_nil, segs_n, ops_nil, ops_cons, vcOp, ev, look, put_mk, keep_mk, keepL, binV, binC, Value.oneCell', cond_true, cond_false, Nat.reduceEqDiff, ↓reduceIte, reduceCtorEq, Bool.true_and, decide_false, true_and, ↓br_tt, ↓br_ft]
                have e0 : (rs.filter fun d => d.taken && decide (d.k ∈ ops.map Op.k)).length = ((rs ++ [d']).filter fun d => d.taken && decide (d.k ∈ ops.map Op.k)).length := by rw [hcount, htk, decide_eq_false (fun h => hin (hmemk.2 h))]; simp
                exact tail4 _ e0 _ (ge_of (by simp [frIn, look]) (by simp [pvIn, look]) rfl rfl rfl)
          refine ⟨ld_of _ hS0 rfl ?_, ld_of _ hS0 rfl ?_⟩
          all_goals
            simp (maxSteps := 2000000) only [ptr, segs_nil, segs_n, ops_nil, ops_cons, ot_op, vcOp, ev, look, put_mk, Nat.reduceEqDiff, ↓reduceIte, Bool.true_and, true_and, getT_nil, gOp_fits, ptr, gDone_get0]
            refine call_with mT mr3 (dOk_spec rfl) rfl hm3 hdm3 (Q := fun rs' m' => rs' = [gUndo d'.undo, .s (.bool d'.taken)] ∧ ∃ L4, L4 .t = L .t ∧ L4 .mk = L3 .mk ∧ TM m' L4 T4) (fun w' vs hv _ _ => ?_) fun rs' mT' _ hq1 hdT => ?_
            · obtain ⟨vs, rfl, _, hv⟩ := argsV_g hv
              obtain ⟨vs, rfl, _, hv⟩ := argsV_g hv
              obtain rfl := argsV_nil hv
              have := hdo w'
              rw [hL3] at this
              exact this
            obtain ⟨rfl, L4, h41, h42, hT4⟩ := hq1
            simp (maxSteps := 2000000) only [retS, List.getElem?_cons_succ, List.getElem?_cons_zero, thenQ_n, kKeep_eq, segs_nil, segs_n, ops_nil, ops_cons, ot_done, ot_op, vcOp, ev, look, updL, put_mk, put_mk0, keep_mk, keepL, GV.getT, GV.sz, GV.same, Nat.reduceEqDiff, ↓reduceIte, reduceCtorEq, List.nil_append, Bool.and_true, Bool.true_and, true_and, and_true, getT_nil, gUndo_sz, gUndo_same, gDone_fld1, gDone_get1, gDone_set1, gDone_fld2, gDone_get2, gDone_set2]
            have ed : ({ d with undo := d'.undo, taken := d'.taken } : Done) = d' := by rw [← hd4]
            rw [ed]
            exact tail3 L4 _ h41 (h42.trans hL4) (hback (h41.trans hL3.symm) hT4 hdT) _ (ge_of (by simp [frIn, look]) (by simp [pvIn, look]) rfl rfl rfl)
        · subst hQ
          obtain rfl : i = cs.length := by omega
          simp (maxSteps := 2000000) only [vc_ret, vc_seq, vc_rg, thenQ_n, blockQ_e, kKeep_eq, loopQ_e, finQ_r, segs_nil, segs_n, ops_nil, ops_cons, vcOp, ev, look, put_mk, keep_mk, keepL, Value.oneCell', cond_true, Nat.reduceEqDiff, ↓reduceIte, reduceCtorEq, ptr]
          rw [List.take_length] at hrs
          have hgood : ({ p with T := T3, ds := p.ds.take f ++ rs, red := ((p.ds.drop f).length : Int) } : PL).good (ptr (L .mk)) kb (q + p.ds.length + ops.length) := by
            have hkk : rs.map Done.k = cs.map Done.k := by
              have h := congrArg (List.map Op.k) hrs
              rw [List.map_map, List.map_map] at h
              exact h
            refine ⟨hF3.up (by omega), hg.bok, hg.bgood, ?_, ?_, fun x hx => ?_⟩
            · simp only [List.length_append, List.length_take]; omega
            · have := placed_rising (cs := cs) (news := news) hg.ris hrn hrc (by rw [hf]; exact hpc)
              rw [hf, List.map_append] at this
              simp only [List.map_append, hkk]
              exact this
            · rcases List.mem_append.1 hx with hx | hx
              · exact hg.ops x (List.mem_of_mem_take hx)
              · have : x.op ∈ cs.map (·.op) := by rw [← hrs]; exact List.mem_map.2 ⟨x, hx, rfl⟩
                obtain ⟨y, hy, e⟩ := List.mem_map.1 this
                rw [← e]
                exact hco y hy
          have hout : ∀ x ∈ p.ds.take f, (x.taken && decide (x.k ∈ ops.map Op.k)) = false := fun x hx => by
            rw [Bool.and_eq_false_iff]
            right
            rw [decide_eq_false_iff_not]
            intro hm
            obtain ⟨op, hop, e⟩ := List.mem_map.1 hm
            exact (hlook.new op hop).1 (by rw [e]; exact List.mem_map.2 ⟨x, List.mem_of_mem_take hx, rfl⟩)
          refine fin_m m3 rfl (fun _ _ h => h) ⟨fun h => absurd hlk h, fun _ => ⟨L3, _, _, hL3, hL4, rfl, hM3, hgood, ⟨?_, rfl, rfl, rfl, ?_, fun hall => ?_, ?_⟩⟩⟩
          · simp only [List.map_append, hrs]
            have := placed_perm (ds := p.ds) (cs := cs) (news := news) (by rw [hf]; exact hpc) hpn
            rw [hf, List.map_append] at this
            exact this
          · simp only; omega
          · have : f = p.ds.length := by rw [← hf]; exact frontA_all fun op hop => hall op (hpn.mem_iff.1 hop)
            simp only [hol]
            omega
          · simp only [List.filter_append]
            have e0 : (p.ds.take f).filter (fun d => d.taken && decide (d.k ∈ ops.map Op.k)) = [] := List.filter_eq_nil_iff.2 (fun x hx => by rw [hout x hx]; simp)
            rw [e0, List.nil_append]
  rw [hov] at hS3 ⊢
  simp (maxSteps := 2000000) only [List.length_map, vc_skip, vc_seq, vc_rg, vc_rga, vc_ite, thenQ_n, kKeep_eq, segs_nil, segs_n, ops_nil, ops_cons, ot_op, ot_or, vcOp, ev, look, put_mk, keep_mk, keepL, rowE, rowD, binV, binC, Value.oneCell', cond_true, Nat.reduceEqDiff, ↓reduceIte, reduceCtorEq, List.nil_append, Nat.zero_add, Nat.add_zero, Bool.true_and, true_and, Int.reduceToNat, Int.reduceLE, decide_eq_true_eq, decide_eq_false_iff_not, br_t, getT_nil, List.length_map, gStamp_fits, gOp_fld0, gOp_get0, getD_gOp]
  refine ⟨fun h => ⟨by omega, ?_⟩, fun h => ?_⟩
  · obtain ⟨op, l, rfl⟩ : ∃ op l, news = op :: l := by
      cases news with
      | nil => simp at h
      | cons op l => exact ⟨op, l, rfl⟩
    refine ⟨ld_of _ hS3 rfl ?_, ld_of _ hS3 rfl ?_⟩
    all_goals
      simp (maxSteps := 2000000) only [List.getD_cons_zero, segs_nil, segs_n, ops_nil, ops_cons, ot_op, vcOp, ev, look, put_mk, rowD, Nat.reduceEqDiff, ↓reduceIte, Bool.true_and, true_and, List.map_cons, List.length_cons, getT_nil, List.length_map, gStamp_fits, gOp_get0]
      refine call_ism _ [.s (.int .i64 (posA p.ds op.k)), .s (.bool (hasA p.ds op.k))] rfl rfl (fun w' vs hv _ _ hm => ?_) ?_
      · obtain ⟨vs, rfl, _, hv⟩ := argsV_g hv
        obtain ⟨vs, rfl, _, hv⟩ := argsV_g hv
        obtain ⟨vs, rfl, _, hv⟩ := argsV_g hv
        obtain rfl := argsV_nil hv
        rw [← hov2]
        exact search_spec w' ov p.ds m hm hSo hof op.stamp (by omega) hg.ris
      simp (maxSteps := 2000000) only [retS, List.getElem?_cons_succ, List.getElem?_cons_zero, thenQ_n, kKeep_eq, segs_nil, segs_n, ops_nil, ops_cons, ot_done, ot_op, vcOp, ev, look, put_mk, keep_mk, keepL, Nat.reduceEqDiff, ↓reduceIte, reduceCtorEq]
      exact tail _ (ge_of (by simp [frIn, look, frontA]) (by simp [pvIn, look]) rfl rfl rfl)
  · obtain rfl : news = [] := by
      cases news with
      | nil => rfl
      | cons op l => simp at h
    exact tail _ (ge_of (by simp [frIn, look, frontA]) (by simp [pvIn, look]) rfl rfl rfl)
end Go.Proofs.YtmjiojflncffeaaGreat.Vc

/- A log: what would be, its tree, its base; a log is cut. -/
set_option linter.unusedVariables false
set_option linter.unusedSimpArgs false
set_option maxRecDepth 100000
namespace Go.Proofs.YtmjiojflncffeaaGreat.Vc
open Go Go.Proofs

section
variable {w : World} {u : PH} {b : Nat} {L Lb : Lay} {p : PL} {kb q : Nat}
theorem nodesT (hu : u.le w) {T : PT} {k : Nat} (hT : TM u L T) (hok : T.ok k) (hk : k ≤ 1099511627776) : Spec Tryz.prog f_tree_Tree_Nodes [ptr (L .t)] PH.no w fun rs m' => ∃ v ts, rs = [.s v] ∧ SlR m' v 4 (ts.map gTreeNode) ∧ TsOk m' ts (nodesTold T) :=
  Nodes_spec w u hu L T hT (ok_tells hok hk)
theorem logBase_spec (hu : u.le w) (hL : LogM u b L Lb p) {mk : Value} (hg : p.good mk kb q) (hq : q ≤ 1099511627776) :
    Spec Tryz.prog f_oplog_Log_Base [ptr b] PH.no w fun rs m' => ∃ v ts, rs = [.s v] ∧ SlR m' v 4 (ts.map gTreeNode) ∧ TsOk m' ts (nodesTold p.B) := by
  refine spec_of k_oplog_Log_Base [.g (.s (ptr b))] (by simp) (by simp [AV.ok, GV.ok, Value.oneCell', ptr]) ?_
  obtain ⟨ov, mT, mB, hS, hT, ⟨hB1, hB2⟩, hs⟩ := hL.look
  simp (maxSteps := 2000000) only [c_oplog_Log_Base, ptr, vc_seq, vc_rg, thenQ_n, kKeep_eq, segs_nil, segs_n, ops_nil, ops_cons, vcOp, ev, look, put_mk, keep_mk, keepL, Value.oneCell', cond_true, ↓reduceIte, reduceCtorEq, initF, initP, ptr]
  have hu' : ∀ {w' : World}, (Ctx.u0 ⟨Tryz.prog, 10, w, PH.no⟩).le w' → u.le w' := fun hw b o h => hw b o (by rw [u0_no]; exact hu b o h)
  refine call_ism _ [.s (.bool false)] rfl rfl (fun w' vs hv hw _ _ => ?_) ?_
  · obtain ⟨vs, rfl, _, hv⟩ := argsV_g hv
    obtain rfl := argsV_nil hv
    exact logNone_spec (hu' hw) hL
  simp (maxSteps := 2000000) only [retS, vc_skip, vc_seq, vc_rg, vc_ite, thenQ_n, kKeep_eq, segs_nil, segs_n, ops_nil, ops_cons, vcOp, ev, look, put_mk, keep_mk, keepL, ↓reduceIte, reduceCtorEq, Nat.zero_add, ↓br_ft]
  refine ld_of _ (hs (kn_u hu)).2.1 rfl ?_
  simp (maxSteps := 2000000) only [ptr, ops_cons, vcOp, put_mk, ptr]
  refine call_ownm rfl rfl (Q := fun rs m' => ∃ v ts, rs = [.s v] ∧ SlR m' v 4 (ts.map gTreeNode) ∧ TsOk m' ts (nodesTold p.B)) (fun w' vs hv hw _ _ => ?_) fun rs m3 _ hq _ => ?_
  · obtain ⟨vs, rfl, _, hv⟩ := argsV_g hv
    obtain rfl := argsV_nil hv
    exact nodesT (u := mB) (fun b o h => hu' hw b o (hB1 b o h)) hB2 hg.bok (by have := hg.many; omega)
  obtain ⟨v, ts, rfl, h1, h2⟩ := hq
  simp (maxSteps := 2000000) only [retS, vc_ret, thenQ_n, kKeep_eq, finQ_r, segs_nil, ops_nil, ops_cons, vcOp, ev, look, put_mk, keep_mk, keepL, ↓reduceIte]
  exact fin_m m3 rfl (by rw [uni_no_r]; exact fun _ _ h => h) ⟨v, ts, rfl, h1, h2⟩
end
end Go.Proofs.YtmjiojflncffeaaGreat.Vc

/- The code of some functions of the program, its types resolved: printed by a program of this claim. -/
set_option linter.unusedVariables false
set_option maxRecDepth 100000
namespace Go.Proofs.YtmjiojflncffeaaGreat.Vc
open Go Go.Proofs

end Go.Proofs.YtmjiojflncffeaaGreat.Vc

/- The document's lists of nodes: compared. -/
set_option linter.unusedVariables false
set_option linter.unusedSimpArgs false
set_option maxRecDepth 100000
namespace Go.Proofs.YtmjiojflncffeaaGreat.Vc
open Go Go.Proofs

theorem SlR.spot {u : PH} {a : Option Addr} {n c z : Nat} {xs : List GV} (h : SlR u (.slice a n c) z xs) (hne : 0 < xs.length) :
    ∃ b o, a = some ⟨b, o, none⟩ ∧ n = xs.length ∧ n ≤ c ∧ ∀ {C : Ctx} {ph : List PH} {m : PH}, KN C.u0 (m :: ph) u → ∀ i x, xs[i]? = some x → Seen C ph m b (o + i * z) x := by
  rcases h.shape with ⟨h1, _⟩ | ⟨_, b, o, c', h1, h2, h3⟩
  · subst h1; simp at hne
  · simp only [Value.slice.injEq] at h1
    obtain ⟨rfl, rfl, rfl⟩ := h1
    exact ⟨b, o, rfl, rfl, h2, h3⟩
theorem seen_fst {C : Ctx} {ph : List PH} {m : PH} {b o : Nat} {x y : GV} (h : Seen C ph m b o (.c x y)) : Seen C ph m b o x := by
  obtain ⟨h1, cs, e, fz, h2, h3⟩ := h
  exact ⟨h1.1, cs, e, fz, h2, fun j v hj => h3 j v (by
    rw [GV.flat, List.getElem?_append_left (List.getElem?_eq_some_iff.1 hj).1]; exact hj)⟩
end Go.Proofs.YtmjiojflncffeaaGreat.Vc

/- A log is cut. -/
set_option linter.unusedVariables false
set_option linter.unusedSimpArgs false
set_option maxRecDepth 100000
namespace Go.Proofs.YtmjiojflncffeaaGreat.Vc
open Go Go.Proofs

/-- How many operations are at or below a time. -/
def cutA (ds : List Done) (t : Int) : Nat := (ds.takeWhile fun d => decide (d.op.stamp.time ≤ t)).length
theorem cutA_le (ds : List Done) (t : Int) : cutA ds t ≤ ds.length := (List.takeWhile_prefix _).length_le
theorem cutA_of : ∀ {ds : List Done} {t : Int} {i : Nat}, i ≤ ds.length → (∀ j, j < i → (ds.getD j zDone).op.stamp.time ≤ t) → (i < ds.length → ¬ (ds.getD i zDone).op.stamp.time ≤ t) → cutA ds t = i
  | [], t, i, h, _, _ => by simp at h; subst h; rfl
  | d :: ds, t, 0, _, _, h => by
    have : ¬ d.op.stamp.time ≤ t := h (by simp)
    simp [cutA, List.takeWhile_cons, this]
  | d :: ds, t, i + 1, h, h1, h2 => by
    have h0 : d.op.stamp.time ≤ t := h1 0 (by omega)
    have ih := cutA_of (ds := ds) (t := t) (i := i) (by simpa using h) (fun j hj => h1 (j + 1) (by omega)) (fun hi => h2 (by simpa using hi))
    simp only [cutA] at ih
    simp [cutA, List.takeWhile_cons, h0, ih]
/-- The log behind a cut. -/
def PL.cut (p : PL) (t : Int) (i1 : List Int) : PL := { p with B := ideal p.B ((p.ds.take (cutA p.ds t)).map (·.op)), fr := t, ds := p.ds.drop (cutA p.ds t), i0 := i1 }
theorem PL.good.cut {p : PL} {mk : Value} {kb q : Nat} (h : p.good mk kb q) (t : Int) : ∃ i1, (p.cut t i1).good mk (kb + cutA p.ds t) q := by
  have hl := cutA_le p.ds t
  generalize hn : cutA p.ds t = n at hl
  have hh := h.fl.hist
  rw [← List.take_append_drop n p.ds] at hh
  obtain ⟨i1, _, h2⟩ := hh.drop
  have ho : ∀ op ∈ (p.ds.take n).map (·.op), OpOk op := fun op hop => by
    obtain ⟨d, hd, rfl⟩ := List.mem_map.1 hop
    exact h.ops d (List.mem_of_mem_take hd)
  refine ⟨i1, ⟨⟨?_, ?_, h.fl.ex, h.fl.last, h.fl.ids⟩, ?_, ?_, ?_, ?_, ?_⟩⟩
  · simp only [PL.cut, hn]; exact h2
  · simp only [PL.cut, hn]
    rw [← ideal_app, ← List.map_append, List.take_append_drop]
    exact h.fl.view
  · simp only [PL.cut, hn]
    have := ideal_ok h.bok ho
    rwa [List.length_map, List.length_take, Nat.min_eq_left hl] at this
  · simp only [PL.cut, hn]
    exact ideal_good h.bok h.bgood ho
  · simp only [PL.cut, hn, List.length_drop]
    have := h.many
    omega
  · simp only [PL.cut, hn]
    exact List.Pairwise.sublist ((List.drop_sublist _ _).map _) h.ris
  · simp only [PL.cut, hn]
    exact fun d hd => h.ops d (List.mem_of_mem_drop hd)

theorem LogM.reI {m : PH} {b : Nat} {L Lb : Lay} {p : PL} (h : LogM m b L Lb p) (i : List Int) : LogM m b L Lb { p with i0 := i } := by
  obtain ⟨ov, e, mo, mT, mB, rfl, q⟩ := h
  exact ⟨ov, e, mo, mT, mB, rfl, ⟨q.d1, q.d2, q.d3, q.ops, q.tree, q.base⟩⟩
theorem sub_skip {a c x : PH} (h : dis a x) : PH.sub (uni c x) (uni c (uni a x)) := fun k o hk => by
  simp only [uni] at hk ⊢
  cases h1 : c k with
  | some y => rw [h1] at hk; simpa [h1] using hk
  | none =>
    rw [h1] at hk
    have hk : x k = some o := by simpa using hk
    have := sub_uni_r h k o hk
    simpa [uni] using this
theorem cut_spec (w : World) (m : PH) (b : Nat) (L Lb : Lay) (p : PL) (hL : LogM m b L Lb p) {mk : Value} {kb q : Nat} (hg : p.good mk kb q) (hq : q < 1099511627776) (hfew : p.ds.length ≤ 549755813888) (t : Int) :
    Spec Tryz.prog f_oplog_Log_Cut [ptr b, .int .i64 t] m w fun rs m' =>
      (t < p.fr ∨ 1099511627776 < t → rs = [.s (.int .i64 1)] ∧ LogM m' b L Lb p) ∧
      (¬ (t < p.fr ∨ 1099511627776 < t) → rs = [.s (.int .i64 0)] ∧ ∀ i1, ∃ Lb', Lb' .t = Lb .t ∧ LogM m' b L Lb' (p.cut t i1)) := by
  refine spec_of k_oplog_Log_Cut [.g (.s (ptr b)), .g (.s (.int .i64 t))] (by simp) (by simp [AV.ok, GV.ok, Value.oneCell', ptr]) ?_
  have hof : ∀ d ∈ p.ds, d.undo.of.oneCell' = true ∨ True := fun d hd => .inr trivial
  obtain ⟨ov0, _, _, hS0, _, _, hs0⟩ := hL.look
  simp (maxSteps := 2000000) only [c_oplog_Log_Cut, ptr, vc_seq, vc_block, vc_rg, thenQ_n, kKeep_eq, segs_nil, segs_n, ops_nil, ops_cons, vcOp, ev, look, put_mk, keep_mk, keepL, Value.oneCell', cond_true, Nat.reduceEqDiff, ↓reduceIte, reduceCtorEq, Nat.zero_add, initF, initP, ptr]
  refine call_ism _ [.s (.bool false)] rfl rfl (fun w' vs hv _ _ hm => ?_) ?_
  · obtain ⟨vs, rfl, _, hv⟩ := argsV_g hv
    obtain rfl := argsV_nil hv
    exact logNone_spec hm hL
  simp (maxSteps := 2000000) only [retS, vc_seq, vc_rg, vc_ite, thenQ_n, kKeep_eq, segs_nil, segs_n, ops_nil, ops_cons, vcOp, ev, look, put_mk, keep_mk, keepL, Nat.reduceEqDiff, ↓reduceIte, reduceCtorEq, Nat.zero_add, ↓br_ft]
  refine ld_of _ (hs0 (KN.mem (by simp))).2.2.1 rfl ?_
  simp (maxSteps := 2000000) only [vc_skip, vc_ret, vc_seq, vc_block, vc_rg, vc_ite, thenQ_n, thenQ_r, blockQ_n, blockQ_r, kKeep_eq, finQ_r, segs_nil, segs_n, segs_g, ops_nil, ops_cons, vcOp, RO.isGh, skip_mk, skipL, ev, look, put_mk, keep_mk, keepL, binV, binC, Value.oneCell', cond_true, cond_false, Nat.reduceEqDiff, ↓reduceIte, reduceCtorEq, Bool.true_and, Bool.not_false, true_and, decide_eq_true_eq, decide_eq_false_iff_not, ↓br_tt, ↓br_ft, br_t, br_f]
  refine ⟨fun h1 => ⟨fun h2 => fin_m m rfl (fun _ _ h => h) ⟨fun _ => ⟨rfl, hL⟩, fun h => absurd (.inr h2) h⟩, fun h2 => ?_⟩, fun h1 => fin_m m rfl (fun _ _ h => h) ⟨fun _ => ⟨rfl, hL⟩, fun h => absurd (.inl h1) h⟩⟩
  refine vc_loop (ι := Nat × Lay × PH) (fun x => ⟨[(0, .g (.s (.pointer (some ⟨b, 0, none⟩)))), (1, .g (.s (.int .i64 (t)))), (5, .g (.s (.int .i64 (x.1))))], [], [], x.2.2⟩)
    (fun x => x.1 ≤ p.ds.length ∧ (∀ j, j < x.1 → (p.ds.getD j zDone).op.stamp.time ≤ t) ∧ x.2.1 .t = Lb .t ∧ LogM x.2.2 b L x.2.1 { p with B := ideal p.B ((p.ds.take x.1).map (·.op)) }) (fun x => p.ds.length - x.1) (0, Lb, m) ⟨by simp, by simp, rfl, hL⟩ (ge_of ?_ ?_ rfl rfl rfl) ?_
  · simp [frIn, look]
  · simp [pvIn, look]
  rintro ⟨n, L1, m1⟩ ⟨hn, hj, hL1, hM⟩
  simp only at hn hj hL1 hM
  generalize hQ : loopQ _ _ _ _ _ = Q
  obtain ⟨ov, mT, mB, hS, _, _, hs⟩ := hM.look
  have hs1 := hs (C := ⟨Tryz.prog, 70, w, m⟩) (ph := []) (m' := m1) (KN.mem (by simp))
  have stop : (n < p.ds.length → ¬ (p.ds.getD n zDone).op.stamp.time ≤ t) → ∀ σ : SS, Ge σ ⟨[(0, .g (.s (.pointer (some ⟨b, 0, none⟩)))), (1, .g (.s (.int .i64 (t)))), (5, .g (.s (.int .i64 (n))))], [], [], m1⟩ → Q (.exit 1) σ := by
    intro hst σ hσ
    subst hQ
    simp only [loopQ_e, blockQ_e, if_true, thenQ_n, vc_seq]
    refine vc_gh_of_ge hσ ?_
    simp (maxSteps := 2000000) only [vc_rg, segs_n, ops_cons, vcOp, ev, look, put_mk, ↓reduceIte, reduceCtorEq, Nat.zero_add]
    have hs3 := hs1.2.2.2.1
    refine ld_of _ hs3 rfl ?_
    simp (maxSteps := 2000000) only [ops_cons, vcOp, ev, look, put_mk, Nat.reduceEqDiff, ↓reduceIte, reduceCtorEq]
    refine gh_id ?_
    refine ops_sl (l := n) (h := p.ds.length) rfl hS rfl (fun d hd => by rw [hd, List.length_map]; rfl) hn (by simp) fun v63 hv1 hv2 => ?_
    rw [List.take_of_length_le (by simp)] at hv2
    simp (maxSteps := 2000000) only [ops_cons, vcOp, put_mk]
    refine call_ownm rfl rfl (Q := fun rs m' => ∃ v', rs = [.s v'] ∧ SlO m' v' 97 22 ((p.ds.drop n).map gDone)) (fun w' vs hv _ _ hm => ?_) fun rs mD _ hq1 hdD => ?_
    · obtain ⟨vs, rfl, _, hv⟩ := argsV_g hv
      obtain rfl := argsV_nil hv
      rw [← List.map_drop] at hv2
      exact cloneD_spec w' v63 _ (by simp; omega) m1 hm hv2
    obtain ⟨vo, rfl, hD⟩ := hq1
    have hdD : dis mD m1 := hdD
    simp (maxSteps := 2000000) only [retS, ops_cons, vcOp, ev, look, put_mk, Nat.reduceEqDiff, ↓reduceIte, reduceCtorEq, Nat.zero_add]
    obtain ⟨ov1, e1, mo, mr, hm1, hdm, hO, hb1, _, hmk⟩ := hM.list
    have hbm := uni_r hdm hb1
    rw [← hm1] at hbm
    have hbd := uni_r hdD hbm.1
    refine st_of rfl _ e1 ⟨hbd.1, by simp⟩ ?_
    simp (maxSteps := 2000000) only [ops_cons, vcOp, ev, look, put_mk, put_mk0, Nat.reduceEqDiff, ↓reduceIte, Nat.zero_add, ptr]
    refine st_of rfl _ e1 ⟨upd_self _ _ _, by simp [writeAt, GV.flat]⟩ ?_
    simp (maxSteps := 2000000) only [vc_ret, vc_seq, vc_rg, thenQ_n, kKeep_eq, finQ_r, segs_nil, segs_n, ops_nil, ops_cons, vcOp, ev, look, put_mk, put_mk0, keep_mk, keepL, Value.oneCell', cond_true, ↓reduceIte]
    rw [upd_upd2, uni_upd hbd.2, hm1, uni_upd hbm.2]
    have hdr : dis mD mr := by rw [hm1] at hdD; exact (dis_of_uni_r hdD).2
    have hcn : cutA p.ds t = n := cutA_of hn hj hst
    have hM2 := hmk (ds' := p.ds.drop n) (fr' := t) (red' := p.red) hD hdr
    refine fin_m (uni mD (mr.upd b (logC L L1 t vo p.red e1))) rfl ?_ ⟨fun h => by omega, fun _ => ⟨rfl, fun i1 => ⟨L1, hL1, ?_⟩⟩⟩
    · exact sub_skip (dis_upd hdm hbm.2)
    · simp only [PL.cut, hcn]
      exact hM2.reI i1
  rcases Nat.lt_or_ge n p.ds.length with hlt | hge
  · obtain ⟨a, c, hov⟩ := slr_len hS
    subst hov
    obtain ⟨bo, oo, rfl, _, _, hsp⟩ := SlR.spot hS (by simp; omega)
    have hel := hsp (C := ⟨Tryz.prog, 70, w, m⟩) (ph := []) (m := m1) (KN.mem (by simp)) n (gDone (p.ds.getD n zDone)) (by rw [List.getElem?_map, List.getD_eq_getElem?_getD, List.getElem?_eq_getElem hlt]; rfl)
    simp only [List.length_map] at hs1
    simp (maxSteps := 2000000) only [c_oplog_Log_Cut_L0, vc_seq, vc_rg, segs_n, ops_cons, vcOp, ev, look, put_mk, Nat.reduceEqDiff, ↓reduceIte, reduceCtorEq, Nat.zero_add]
    have hs3 := hs1.2.2.2.1
    refine ld_of _ hs3 rfl ?_
    simp (maxSteps := 2000000) only [vc_exit, vc_ite, thenQ_n, thenQ_e, kKeep_eq, segs_nil, segs_n, segs_g, ops_nil, ops_cons, vcOp, RO.isGh, skip_mk, skipL, ev, look, put_mk, keep_mk, keepL, binV, binC, Value.oneCell', cond_true, cond_false, Nat.reduceEqDiff, ↓reduceIte, reduceCtorEq, Nat.zero_add, Bool.true_and, Bool.not_true, true_and, decide_eq_true_eq, decide_eq_false_iff_not, ↓br_ft, br_t]
    refine ⟨fun _ => ?_, fun h => by omega⟩
    refine ld_of _ hs3 rfl ?_
    simp (maxSteps := 2000000) only [ops_cons, vcOp, ev, look, put_mk, Nat.reduceEqDiff, ↓reduceIte, reduceCtorEq, Nat.add_zero, Int.toNat_natCast]
    refine ⟨⟨by omega, by omega⟩, ?_⟩
    refine ld_of _ (seen_fst (seen_fst (seen_fst hel))) rfl ?_
    simp (maxSteps := 2000000) only [vc_skip, vc_exit, vc_seq, vc_block, vc_rgq, vc_ite, thenQ_n, thenQ_e, kKeep_eq, segs_nil, segs_n, ops_nil, ops_cons, qsegs_n, qops_cons, vcqOp, vcOp, isRd, ev, look, put_mk, keep_mk, keepL, binV, binC, Value.oneCell', cond_true, Nat.reduceEqDiff, ↓reduceIte, reduceCtorEq, Nat.zero_add, Bool.true_and, true_and, decide_eq_true_eq, decide_eq_false_iff_not, ↓br_tt, br_t]
    refine ⟨fun hle => ?_, fun hle => ?_⟩
    · have hs2 := hs1.2.1
      rw [hL1] at hs2
      refine ld_of _ hs2 rfl ?_
      simp (maxSteps := 2000000) only [ptr, qops_cons, vcqOp, vcOp, isRd, ev, look, put_mk, ↓reduceIte, reduceCtorEq, Nat.zero_add, Bool.true_and, true_and, ptr]
      refine ld_of _ hs3 rfl ?_
      simp (maxSteps := 2000000) only [qops_cons, vcqOp, vcOp, isRd, ev, look, put_mk, Nat.reduceEqDiff, ↓reduceIte, reduceCtorEq, Nat.add_zero, Bool.true_and, true_and, Int.toNat_natCast]
      refine ⟨⟨by omega, by omega⟩, ?_⟩
      refine ld_of _ (seen_fst hel) (gOp_fits _) ?_
      simp (maxSteps := 2000000) only [segs_n, ops_cons, qsegs_nil, qops_nil, vcOp, put_mk]
      obtain ⟨d, hd⟩ : ∃ d, p.ds.getD n zDone = d := ⟨_, rfl⟩
      have hdm : d ∈ p.ds := hd ▸ getD_in hlt zDone
      rw [hd] at hle ⊢
      have hop := hg.ops d hdm
      obtain ⟨mB1, mr1, hm1, hdm1, hB1, hback⟩ := hM.base
      have hok : (ideal p.B ((p.ds.take n).map (·.op))).ok q := by
        have := ideal_ok (l := (p.ds.take n).map (·.op)) hg.bok fun op h => by
          obtain ⟨x, hx, rfl⟩ := List.mem_map.1 h
          exact hg.ops x (List.mem_of_mem_take hx)
        refine this.up ?_
        have := hg.many
        simp only [List.length_map, List.length_take]
        omega
      refine call_with mB1 mr1 (dOk_spec rfl) rfl hm1 hdm1 (Q := fun rs m' => (∃ a c, rs = [a, c]) ∧ ∃ L2, L2 .t = Lb .t ∧ TM m' L2 ((ideal p.B ((p.ds.take n).map (·.op))).step d.op)) (fun w' vs hv _ _ => ?_) fun rs mB' _ hq1 hdB => ?_
      · obtain ⟨vs, rfl, _, hv⟩ := argsV_g hv
        obtain ⟨vs, rfl, _, hv⟩ := argsV_g hv
        obtain rfl := argsV_nil hv
        have := (Do_spec w' mB1 L1 (ideal p.B ((p.ds.take n).map (·.op))) d.op hop.2 (ok_fits hok (by omega)) hB1).mono fun rs m' h => (show (∃ a c, rs = [a, c]) ∧ ∃ L2, L2 .t = L1 .t ∧ TM m' L2 ((ideal p.B ((p.ds.take n).map (·.op))).step d.op) from by
          cases hmay : mayA (ideal p.B ((p.ds.take n).map (·.op))) d.op with
          | false => exact ⟨⟨_, _, (h.1 hmay).1⟩, L1, rfl, by rw [step_no hmay]; exact (h.1 hmay).2⟩
          | true =>
            obtain ⟨L2, e1, e2, e3, e4⟩ := h.2 hmay
            exact ⟨⟨_, _, e3⟩, L2, e1, by rw [step_yes hmay]; exact e4⟩)
        rw [hL1] at this
        exact this
      obtain ⟨⟨ra, rc, rfl⟩, L2, h21, hT2⟩ := hq1
      simp (maxSteps := 2000000) only [retS, vc_rg, thenQ_n, blockQ_n, kKeep_eq, segs_nil, segs_n, ops_nil, ops_cons, vcOp, ev, look, put_mk, keep_mk, keepL, binV, binC, Value.oneCell', cond_true, Nat.reduceEqDiff, ↓reduceIte, reduceCtorEq, Bool.true_and, true_and]
      subst hQ; simp only [loopQ_n]; refine ⟨(n + 1, L2, uni mB' mr1), ?_, ?_, ge_of ?_ ?_ rfl rfl rfl⟩
      · refine ⟨by simp only; omega, fun j hj' => ?_, h21, ?_⟩
        · rcases Nat.lt_succ_iff_lt_or_eq.1 hj' with h4 | rfl
          · exact hj j h4
          · rw [hd]; exact hle
        · simp only
          have := hback (h21.trans hL1.symm) hT2 hdB
          rw [take_at hlt zDone, hd, List.map_append, List.map_cons, List.map_nil, ideal_snoc]
          exact this
      · simp only; omega
      · simp only [frIn, look, Nat.reduceEqDiff, ↓reduceIte, reduceCtorEq, Bool.and_true, Bool.true_and, true_and, and_true]
        rw [wrap_n (by omega)]
        try simp
      · simp [pvIn, look]
    · exact stop (fun _ => hle) _ (ge_of (by simp [frIn, look]) (by simp [pvIn, look]) rfl rfl rfl)
  · obtain ⟨a, c, hov⟩ := slr_len hS
    subst hov
    simp only [List.length_map] at hs1
    simp (maxSteps := 2000000) only [c_oplog_Log_Cut_L0, vc_seq, vc_rg, segs_n, ops_cons, vcOp, ev, look, put_mk, Nat.reduceEqDiff, ↓reduceIte, reduceCtorEq, Nat.zero_add]
    refine ld_of _ hs1.2.2.2.1 rfl ?_
    simp (maxSteps := 2000000) only [vc_exit, vc_ite, thenQ_n, thenQ_e, kKeep_eq, segs_nil, segs_n, segs_g, ops_nil, ops_cons, vcOp, RO.isGh, skip_mk, skipL, ev, look, put_mk, keep_mk, keepL, binV, binC, Value.oneCell', cond_true, cond_false, Nat.reduceEqDiff, ↓reduceIte, reduceCtorEq, Nat.zero_add, Bool.true_and, Bool.not_true, true_and, decide_eq_true_eq, decide_eq_false_iff_not, ↓br_ft, br_t]
    refine ⟨fun h => by omega, fun _ => ?_⟩
    exact stop (fun h => by omega) _ (ge_of (by simp [frIn, look]) (by simp [pvIn, look]) rfl rfl rfl)
end Go.Proofs.YtmjiojflncffeaaGreat.Vc

/- A log that operations come to: in steps; what the law asks of every log first. -/
set_option linter.unusedVariables false
set_option linter.unusedSimpArgs false
set_option maxRecDepth 100000
namespace Go.Proofs.YtmjiojflncffeaaGreat.Vc
open Go Go.Proofs Go.Proofs.YtmjiojflncffeaaGreat Go.ChangeShapes Go.WideShapes Go.ChangeAt

/-- How many may have been done, where so many are there. -/
def tri (n : Nat) : Nat := n * (n + 1) / 2
theorem tri_step (n c : Nat) (hc : 1 ≤ c) : tri n + n + c ≤ tri (n + c) := by
  unfold tri
  obtain ⟨d, rfl⟩ : ∃ d, c = d + 1 := ⟨c - 1, by omega⟩
  have e : (n + (d + 1)) * (n + (d + 1) + 1) = n * (n + 1) + 2 * (n + (d + 1)) + (2 * (n * d) + d * (d + 1)) := by
    simp only [Nat.mul_add, Nat.add_mul, Nat.mul_one, Nat.one_mul]
    rw [Nat.mul_comm d n]
    omega
  have h1 : (n + (d + 1)) * (n + (d + 1) + 1) / 2 ≥ (n * (n + 1) + 2 * (n + (d + 1))) / 2 := Nat.div_le_div_right (by omega)
  have h2 : (n * (n + 1) + 2 * (n + (d + 1))) / 2 = n * (n + 1) / 2 + (n + (d + 1)) := by omega
  omega
theorem tri_le {n : Nat} (h : n ≤ 1200000) : tri n ≤ 720000600000 := by
  unfold tri
  have : n * (n + 1) ≤ 1200000 * 1200001 := Nat.mul_le_mul h (by omega)
  omega
theorem PL.good.up {p : PL} {mk : Value} {kb q q' : Nat} (h : p.good mk kb q) (hq : q ≤ q') : p.good mk kb q' := ⟨h.fl.up hq, h.bok, h.bgood, by have := h.many; omega, h.ris, h.ops⟩

theorem ops_len {p p' : PL} {ops : List Op} {n : Int} (h : Added p ops p' n) : p'.ds.length = p.ds.length + ops.length := by
  have := h.perm.length_eq
  simpa using this
/-- A step: what Add answers, the measure with it. -/
def StepQ (b : Nat) (L Lb : Lay) (p : PL) (kb : Nat) (ops : List Op) (rs : List GV) (m' : PH) : Prop :=
  (lookE p.ds p.fr [] ops ≠ 0 → rs = [.s (.int .i64 0), .s (.int .i64 (lookE p.ds p.fr [] ops))] ∧ LogM m' b L Lb p) ∧
  (lookE p.ds p.fr [] ops = 0 → ∃ L' p' n, L' .t = L .t ∧ L' .mk = L .mk ∧ rs = [.s (.int .i64 n), .s (.int .i64 0)] ∧ LogM m' b L' Lb p' ∧ p'.good (ptr (L .mk)) kb (tri p'.ds.length) ∧ Added p ops p' n)
theorem step_spec (w : World) (m : PH) (b : Nat) (L Lb : Lay) (p : PL) (hL : LogM m b L Lb p) {kb : Nat} (hg : p.good (ptr (L .mk)) kb (tri p.ds.length)) (v : Value) (ops : List Op) (ho : ∀ op ∈ ops, OpIn op ∧ OpOk op) (h1 : 1 ≤ ops.length) (hS : SlR (but w m) v 8 (ops.map gOp)) (hfew : p.ds.length ≤ 1048576) (hsum : p.ds.length + ops.length ≤ 1200000) (hon : ops.length ≤ 1048576) :
    Spec Tryz.prog f_oplog_Log_Add [ptr b, v] m w (StepQ b L Lb p kb ops) := by
  have ht := tri_step p.ds.length ops.length h1
  have ht2 := tri_le hsum
  refine (add_spec w m b L Lb p hL hg v ops ⟨hon, ho⟩ hS (by omega) hfew).mono fun rs m' h => ⟨h.1, fun h0 => ?_⟩
  obtain ⟨L', p', n, e1, e2, e3, e4, e5, e6⟩ := h.2 h0
  exact ⟨L', p', n, e1, e2, e3, e4, e5.up (by rw [ops_len e6]; exact ht), e6⟩

/-- What is wrong with one operation. -/
theorem lookE_one (ds : List Done) (fr : Int) (op : Op) : lookE ds fr [] [op] = if checkE op ≠ 0 then checkE op else if op.stamp.time ≤ fr then 130 else if hasA ds op.k = true then 5 else 0 := by
  simp only [lookE, List.not_mem_nil, or_false]

def liveOp : Op := ⟨⟨1, 0⟩, 1, 24, 1, ⟨#[97]⟩, ⟨#[]⟩, ⟨#[]⟩⟩
theorem liveOp_in : OpIn liveOp ∧ OpOk liveOp := ⟨⟨by decide, by decide, by decide⟩, by decide, by decide⟩
theorem liveOp_check : checkE liveOp = 0 := by decide +kernel
theorem liveOp_may : mayA T0 liveOp = true := by decide +kernel
theorem liveOp_told : (nodesTold (T0.step liveOp)).length = 1 := by
  rw [step_yes liveOp_may]
  have hp : (nodesK (T0.does liveOp)).Perm [1, 2, 24] := List.mergeSort_perm _ _
  have hl := ((hp.filterMap fun n => ((T0.does liveOp).get n).map fun x => toldOf n x).filter TN.shown).length_eq
  show ((List.filterMap _ _).filter _).length = 1
  rw [hl]
  have h1 : (T0.does liveOp).get 1 = some ⟨0, ⟨#[]⟩, [], [24]⟩ := rfl
  have h2 : (T0.does liveOp).get 2 = some ⟨0, ⟨#[]⟩, [], []⟩ := rfl
  have h3 : (T0.does liveOp).get 24 = some ⟨1, ⟨#[97]⟩, [], []⟩ := rfl
  simp [h1, h2, h3, List.filterMap_cons, toldOf, TN.shown, attrsOf, attrKeys, sortB, topB, List.filter_cons]
/-- One operation, put to a log. -/
theorem one_split {w' : World} {m1 : PH} {b : Nat} {L Lb : Lay} {p : PL} (hL : LogM m1 b L Lb p) {kb : Nat} (hg : p.good (ptr (L .mk)) kb (tri p.ds.length)) (hfew : p.ds.length ≤ 1048576) {v' : Value} {op : Op} (ho : OpIn op ∧ OpOk op) (hs : SlR (but w' m1) v' 8 [gOp op]) :
    Spec Tryz.prog f_oplog_Log_Add [ptr b, v'] m1 w' (StepQ b L Lb p kb [op]) :=
  step_spec w' m1 b L Lb p hL hg v' [op] (by simpa using ho) (by simp) hs hfew (by simp; omega) (by simp)
theorem live13_spec (w : World) : Spec Tryz.prog f_law13_live [] PH.no w fun rs _ => rs = [.s (.bool true)] := by
  refine spec_val k_law13_live (Qf := fun rs => rs = [.s (.bool true)]) [] (by simp) (by simp [AV.ok]) ?_
  simp (maxSteps := 2000000) only [c_law13_live, vc_seq, vc_rg, thenQ_n, kKeep_eq, segs_nil, segs_n, ops_nil, ops_cons, vcOp, ev, put_mk, keep_mk, keepL, Value.oneCell', cond_true, initF, initP, gStamp_zero, gOp_zero]
  refine call_ownm rfl rfl (Q := fun rs m' => ∃ b L Lb, rs = [.s (ptr b)] ∧ LogM m' b L Lb PL.new) (fun w' vs hv hw _ _ => ?_) fun rs m0 _ hq _ => ?_
  · obtain rfl := argsV_nil hv
    exact logNew_spec w'
  obtain ⟨b, L, Lb, rfl, hL⟩ := hq
  simp (maxSteps := 2000000) only [retS, uni_no_r, vc_seq, vc_rg, thenQ_n, kKeep_eq, segs_nil, segs_n, ops_nil, ops_cons, vcOp, ev, look, put_mk, keep_mk, keepL, Value.oneCell', cond_true, ↓reduceIte, ptr]
  refine eq_of (eqLog b) ?_
  simp (maxSteps := 2000000) only [vc_skip, vc_seq, vc_rg, vc_ite, thenQ_n, kKeep_eq, segs_nil, segs_n, ops_nil, ops_cons, vcOp, ev, evL, gvL, look, updL, put_mk, keep_mk, keepL, GV.getT, GV.same, Value.oneCell', cond_true, Nat.reduceEqDiff, ↓reduceIte, Nat.zero_add, Bool.and_true, Bool.true_and, true_and, and_true, List.map_cons, List.map_nil, Option.map_some, szAll, List.length_cons, List.length_nil, ↓br_ft, Bool.bne_false, GV.bldT, GV.bldC, same_int, getT_nil, gStamp_same, gStamp_get0, gStamp_set0, gOp_sz, gOp_get0, gOp_set0, gOp_get1, gOp_set1, gOp_get2, gOp_set2, gOp_get3, gOp_set3, gOp_get4, gOp_set4]
  refine ⟨rfl, ⟨rfl, rfl, rfl, rfl, rfl⟩, ?_⟩
  refine call_split m0 PH.no rfl rfl (uni_no_r _).symm (dis_no_r _) (Q := StepQ b L Lb PL.new 0 [liveOp]) (fun w' vs hv _ _ _ => ?_) fun rs m1 _ hq _ => ?_
  · obtain ⟨vs, rfl, _, hv⟩ := argsB_g hv
    obtain ⟨v', vs, rfl, hs, hv⟩ := argsB_row (z := 8) (xs := [gOp liveOp]) rfl rfl hv
    obtain rfl := argsB_nil hv
    exact one_split hL (PL.new_good _) (by decide) liveOp_in hs
  have hlk : lookE PL.new.ds PL.new.fr [] [liveOp] = 0 := by rw [lookE_one, liveOp_check]; decide
  obtain ⟨L', p', n, hL1, hL2, rfl, hM, hg, hA⟩ := hq.2 hlk
  simp (maxSteps := 2000000) only [retS, List.getElem?_cons_succ, List.getElem?_cons_zero, uni_no_r, vc_ret, vc_seq, vc_rg, thenQ_n, kKeep_eq, segs_nil, segs_n, segs_g, ops_nil, ops_cons, vcOp, RO.isGh, skip_mk, skipL, ev, look, put_mk, keep_mk, keepL, binV, binC, Value.oneCell', cond_true, cond_false, Nat.reduceEqDiff, ↓reduceIte, Bool.true_and, Bool.not_true, BEq.rfl, true_and, finW_r, resL, resOne, ↓br_tt, ↓br_ft, br_t]
  have hlen : p'.ds.length = 1 := ops_len hA
  obtain ⟨d, hd⟩ : ∃ d, p'.ds = [d] := List.length_eq_one_iff.1 hlen
  have hop : d.op = liveOp := by
    have := hA.perm
    rw [hd] at this
    have := this.mem_iff (a := d.op)
    simpa [PL.new] using this
  have htk : d.taken = true := by
    have hh := hg.fl.hist
    rw [hd] at hh
    have := LHist.taken (ds := []) hh
    rw [hop, hA.B] at this
    rw [this]
    exact liveOp_may
  have hn : n = 1 := by
    rw [hA.n, hd]
    have : d.k = liveOp.k := by show d.op.k = _; rw [hop]
    simp [List.filter_cons, htk, this]
  subst hn
  simp (maxSteps := 2000000) only [Bool.and_true, BEq.rfl, and_true, true_imp_iff, false_imp_iff, Bool.true_eq_false]
  refine call_ism _ [.s (.int .i64 1)] rfl rfl (fun w' vs hv _ _ hm => ?_) ?_
  · obtain ⟨vs, rfl, _, hv⟩ := argsV_g hv
    obtain rfl := argsV_nil hv
    have := logLen_spec hm hM
    rw [hlen] at this
    exact this
  simp (maxSteps := 2000000) only [retS, segs_n, segs_g, ops_nil, ops_cons, vcOp, ev, look, put_mk, binV, binC, Value.oneCell', cond_true, Nat.reduceEqDiff, ↓reduceIte, Bool.true_and, BEq.rfl, true_and, ↓br_tt]
  have hfr : p'.fr = 0 := hA.fr
  refine call_all rfl rfl (Q := fun rs m' => rs = [.s (.int .i64 0)] ∧ ∀ i1, ∃ Lb', Lb' .t = Lb .t ∧ LogM m' b L' Lb' (p'.cut 1 i1)) (fun w' vs hv _ _ => ?_) fun rs m2 _ hq2 => ?_
  · obtain ⟨vs, rfl, _, hv⟩ := argsV_g hv
    obtain ⟨vs, rfl, _, hv⟩ := argsV_g hv
    obtain rfl := argsV_nil hv
    exact (cut_spec w' m1 b L' Lb p' hM hg (by rw [hlen]; decide) (by omega) 1).mono fun rs m' h => h.2 (by rw [hfr]; decide)
  obtain ⟨rfl, hcut⟩ := hq2
  obtain ⟨i1, hgc⟩ := hg.cut 1
  obtain ⟨Lb', _, hMc⟩ := hcut i1
  have hca : cutA p'.ds 1 = 1 := by
    rw [hd]
    have : d.op.stamp.time ≤ 1 := by rw [hop]; decide
    simp [cutA, List.takeWhile_cons, this]
  have hds : (p'.cut 1 i1).ds = [] := by
    show p'.ds.drop (cutA p'.ds 1) = []
    rw [hca, hd]; rfl
  have hB : (p'.cut 1 i1).B = T0.step liveOp := by
    show ideal p'.B ((p'.ds.take (cutA p'.ds 1)).map (·.op)) = _
    rw [hca, hd, hA.B]
    show ideal T0 [d.op] = _
    rw [hop]; rfl
  simp (maxSteps := 2000000) only [retS, segs_n, segs_g, ops_nil, ops_cons, vcOp, ev, look, put_mk, binV, binC, Value.oneCell', cond_true, Nat.reduceEqDiff, ↓reduceIte, Bool.true_and, BEq.rfl, true_and, ↓br_tt]
  refine call_ism _ [.s (.int .i64 0)] rfl rfl (fun w' vs hv _ _ hm => ?_) ?_
  · obtain ⟨vs, rfl, _, hv⟩ := argsV_g hv
    obtain rfl := argsV_nil hv
    have := logLen_spec hm hMc
    rw [hds] at this
    exact this
  simp (maxSteps := 2000000) only [retS, segs_n, segs_g, ops_nil, ops_cons, vcOp, ev, look, put_mk, binV, binC, Value.oneCell', cond_true, Nat.reduceEqDiff, ↓reduceIte, Bool.true_and, BEq.rfl, true_and, ↓br_tt]
  refine call_frzm rfl rfl (Q := fun rs m' => ∃ v ts, rs = [.s v] ∧ SlR m' v 4 (ts.map gTreeNode) ∧ TsOk m' ts (nodesTold (p'.cut 1 i1).B)) (fun w' vs hv _ _ hm => ?_) fun rs m3 _ hq3 => ?_
  · obtain ⟨vs, rfl, _, hv⟩ := argsV_g hv
    obtain rfl := argsV_nil hv
    exact logBase_spec hm hMc hgc (by rw [hlen]; decide)
  obtain ⟨v, ts, rfl, hs, hts⟩ := hq3
  rw [hB] at hts
  have htl := hts.len
  rw [liveOp_told] at htl
  obtain ⟨a, c, rfl⟩ := slr_len hs
  simp (maxSteps := 2000000) only [retS, List.length_map, htl, vc_ret, thenQ_n, kKeep_eq, segs_nil, segs_n, ops_nil, ops_cons, vcOp, ev, look, put_mk, keep_mk, keepL, binV, binC, Value.oneCell', cond_true, Nat.reduceEqDiff, ↓reduceIte, Bool.true_and, true_and, finW_r, resL, resOne, ↓br_tt, List.length_map]
  rfl
end Go.Proofs.YtmjiojflncffeaaGreat.Vc

/- The code of some functions of the program, its types resolved: printed by a program of this claim. -/
set_option linter.unusedVariables false
set_option maxRecDepth 100000
namespace Go.Proofs.YtmjiojflncffeaaGreat.Vc
open Go Go.Proofs

end Go.Proofs.YtmjiojflncffeaaGreat.Vc

/- OplogRedoes and OplogWould, the walks. -/
set_option linter.unusedVariables false
set_option linter.unusedSimpArgs false
set_option maxRecDepth 100000
namespace Go.Proofs.YtmjiojflncffeaaGreat.Vc
open Go Go.Proofs

/-- No operation is behind this stamp. -/
def Top (p : PL) (s : Stamp) : Prop := ∀ d ∈ p.ds, ¬ ltK s.k d.k
theorem checkE_well {op : Op} (h : checkE op = 0) : Well op := fun hw => by
  rw [checkE_a hw] at h; cases h
theorem checkE_time {op : Op} (h : checkE op = 0) : 1 ≤ op.stamp.time := by
  have := checkE_well h
  unfold Well at this
  have hc : CheckP op.stamp := Classical.byContradiction fun hn => this (.inl hn)
  exact hc.1
/-- A log on its way through the law. -/
structure Way1 (b : Nat) (m : PH) (L Lb : Lay) (p : PL) (s : Stamp) (i : Nat) : Prop where
  M : LogM m b L Lb p
  good : p.good (ptr (L .mk)) 0 (tri p.ds.length)
  few : p.ds.length ≤ i
  fr : p.fr = 0
  top : Top p s
end Go.Proofs.YtmjiojflncffeaaGreat.Vc

/- The code of some functions of the program, its types resolved: printed by a program of this claim. -/
set_option linter.unusedVariables false
set_option maxRecDepth 100000
namespace Go.Proofs.YtmjiojflncffeaaGreat.Vc
open Go Go.Proofs

end Go.Proofs.YtmjiojflncffeaaGreat.Vc

/- OplogOrders, the walk. -/
set_option linter.unusedVariables false
set_option linter.unusedSimpArgs false
set_option maxRecDepth 100000
namespace Go.Proofs.YtmjiojflncffeaaGreat.Vc
open Go Go.Proofs

/-- What was accepted. -/
def Goods (l : List Op) : Prop := ∀ op ∈ l, (OpIn op ∧ OpOk op) ∧ checkE op = 0
/-- A log that has these, in its order. -/
structure Way2 (b : Nat) (m : PH) (L Lb : Lay) (p : PL) (l : List Op) : Prop where
  M : LogM m b L Lb p
  good : p.good (ptr (L .mk)) 0 (tri p.ds.length)
  fr : p.fr = 0
  B : p.B = T0
  perm : (p.ds.map (·.op)).Perm l
theorem Way2.len {b : Nat} {m : PH} {L Lb : Lay} {p : PL} {l : List Op} (h : Way2 b m L Lb p l) : p.ds.length = l.length := by
  have := h.perm.length_eq
  simpa using this
theorem Way2.rising {b : Nat} {m : PH} {L Lb : Lay} {p : PL} {l : List Op} (h : Way2 b m L Lb p l) : Rising ((p.ds.map (·.op)).map Op.k) := by
  rw [List.map_map]; exact h.good.ris
theorem Way2.nod {b : Nat} {m : PH} {L Lb : Lay} {p : PL} {l : List Op} (h : Way2 b m L Lb p l) : (l.map Op.k).Nodup := by
  have h1 : ((p.ds.map (·.op)).map Op.k).Nodup := h.rising.imp fun h e => by rw [e] at h; exact ltK_irrefl _ h
  exact (h.perm.map _).nodup_iff.1 h1
/-- Two logs of the same operations have trees of one look. -/
theorem Way2.same {b b' : Nat} {m m' : PH} {L Lb L' Lb' : Lay} {p p' : PL} {l l' : List Op} (h : Way2 b m L Lb p l) (h' : Way2 b' m' L' Lb' p' l') (hl : l.Perm l') : p.T.view = p'.T.view := by
  have e : p.ds.map (·.op) = p'.ds.map (·.op) := Rising.uniq (h.perm.trans (hl.trans h'.perm.symm)) h.rising h'.rising
  rw [h.good.fl.view, h'.good.fl.view, e, h.B, h'.B]
theorem Way2.new {b : Nat} {m : PH} {L Lb : Lay} (h : LogM m b L Lb PL.new) : Way2 b m L Lb PL.new [] := ⟨h, (PL.new_good _).up (Nat.zero_le _), rfl, rfl, List.Perm.refl _⟩
/-- What comes, put to it. -/
theorem Way2.add {b : Nat} {m m1 : PH} {L Lb L' : Lay} {p p' : PL} {l ops : List Op} {n : Int} (h : Way2 b m L Lb p l) (hM : LogM m1 b L' Lb p') (hL : L' .mk = L .mk) (hg : p'.good (ptr (L .mk)) 0 (tri p'.ds.length)) (hA : Added p ops p' n) : Way2 b m1 L' Lb p' (l ++ ops) :=
  ⟨hM, by rw [hL]; exact hg, hA.fr.trans h.fr, hA.B.trans h.B, hA.perm.trans (h.perm.append_right _)⟩
/-- What is not there yet may be put there. -/
theorem Way2.may {b : Nat} {m : PH} {L Lb : Lay} {p : PL} {l ops : List Op} (h : Way2 b m L Lb p l) (ho : Goods ops) (hn : ((l ++ ops).map Op.k).Nodup) : lookE p.ds p.fr [] ops = 0 := by
  rw [List.map_append, List.nodup_append] at hn
  refine lookE_of ⟨fun op hop => (ho op hop).2, fun op hop => by rw [h.fr]; have := checkE_time (ho op hop).2; omega, fun op hop => ⟨fun hm => ?_, List.not_mem_nil⟩, hn.2.1⟩
  obtain ⟨d, hd, e⟩ := List.mem_map.1 hm
  have : d.op ∈ l := h.perm.mem_iff.1 (List.mem_map.2 ⟨d, hd, rfl⟩)
  exact hn.2.2 _ (List.mem_map.2 ⟨d.op, this, rfl⟩) _ (List.mem_map.2 ⟨op, hop, rfl⟩) e
end Go.Proofs.YtmjiojflncffeaaGreat.Vc

/- OplogTree, the walk. -/
set_option linter.unusedVariables false
set_option linter.unusedSimpArgs false
set_option maxRecDepth 100000
namespace Go.Proofs.YtmjiojflncffeaaGreat.Vc
open Go Go.Proofs

end Go.Proofs.YtmjiojflncffeaaGreat.Vc

/- A loop over a function that asks for no round. -/
set_option linter.unusedVariables false
set_option linter.unusedSimpArgs false
namespace Go.Proofs.YtmjiojflncffeaaGreat.Vc
open Go Go.Shelf

theorem kept_alloc (w : World) (o : Obj) : Kept PH.no w (w.alloc o) := by
  refine ⟨rfl, rfl, rfl, by rw [World.size_alloc]; omega, fun k hk _ => ?_⟩
  show (w.heap.push o)[k]? = _
  rw [Array.getElem?_push_lt hk, Array.getElem?_eq_getElem hk]
theorem kept_trans {a b c : World} (h1 : Kept PH.no a b) (h2 : Kept PH.no b c) : Kept PH.no a c := by
  obtain ⟨k1, k2, k3, k4, k5⟩ := h1
  obtain ⟨q1, q2, q3, q4, q5⟩ := h2
  exact ⟨q1.trans k1, q2.trans k2, q3.trans k3, by omega, fun k hk hn => (q5 k (by omega) hn).trans (k5 k hk hn)⟩
theorem wp_rangeFunc_never {P : Program} {g : Operand} {ps : Array Tmp} {assign body : Code} {Q : Exit → Act → World → Prop} {a : Act} {w : World} {gf : Nat} {lb : List Value}
    (hg : a.eval g = .func (.func gf) #[] lb.toArray) (eg : ∀ args w, (callFunc gf args).run P w = .ok (.enter gf args) w)
    (hs : ∀ l W, Kept PH.no w W → Spec P gf (.func (.yield l) #[] #[] :: lb) PH.no W fun rs _ => rs = [])
    (hQ : ∀ D W, w.heap.size ≤ D → Kept PH.no w W → W.heap[D]? = some (.deferred (some [])) → Q .normal { a with defers := { target := .collected D, args := #[] } :: a.defers } W) :
    (Code.rangeFunc g ps assign body).wp P Q a w := by
  refine (wpIn_wide (n := 0)).1 (wpIn_rangeFunc ?_)
  intro fn _
  obtain ⟨rec, hrec⟩ : ∃ rec : LoopState → Option Code → Loop, rec = fun st pe => { state := st, pending := pe, fn, tmps := a.tmps, params := ps, assign, body, defers := w.heap.size } := ⟨_, rfl⟩
  obtain ⟨W1, hW1⟩ : ∃ W1, (w.alloc (.deferred (some []))).alloc (.loop (rec .ready none)) = W1 := ⟨_, rfl⟩
  have hk1 : Kept PH.no w W1 := by rw [← hW1]; exact kept_trans (kept_alloc _ _) (kept_alloc _ _)
  have hsz : W1.heap.size = w.heap.size + 2 := by rw [← hW1, World.size_alloc, World.size_alloc]
  have hL1 : W1.heap[w.heap.size + 1]? = some (.loop (rec .ready none)) := by
    rw [← hW1]; have := World.alloc_heap_new (w.alloc (.deferred (some []))) (.loop (rec .ready none)); rwa [World.size_alloc] at this
  have hK1 : W1.heap[w.heap.size]? = some (.deferred (some [])) := by
    rw [← hW1]
    have h2 := (kept_alloc (w.alloc (.deferred (some []))) (.loop (rec .ready none))).2.2.2.2 w.heap.size (by rw [World.size_alloc]; omega) rfl
    rw [h2]
    exact World.alloc_heap_new w _
  refine ⟨w.heap.size + 1, [{ target := .collected w.heap.size, args := #[] }], W1, { target := .fn (.func gf) lb.toArray, args := #[.func (.yield (w.heap.size + 1)) #[] #[]] }, W1, gf,
    #[.func (.yield (w.heap.size + 1)) #[] #[]] ++ lb.toArray, W1, ?_, ?_, ?_, ?_, (fun h => by cases h), ?_⟩
  · rw [← hW1, hrec]; exact run_enterLoop_outer _ _ _ _ _
  · simp only [resolve, hg]
    simp [go_sem]
  · intro f' _; trivial
  · simp [invoke, go_sem, eg]
  · refine callsIn_wide.2 ?_
    have h := hs (w.heap.size + 1) W1 hk1 (fun b o hb => by cases hb)
    have hargs : (Value.func (.yield (w.heap.size + 1)) #[] #[] :: lb).toArray = #[Value.func (.yield (w.heap.size + 1)) #[] #[]] ++ lb.toArray := by simp
    rw [hargs] at h
    refine h.mono fun e W2 he => ?_
    obtain ⟨rs, m', rfl, _, _, _, _, hk2⟩ := he
    have hl2 : W2.heap[w.heap.size + 1]? = some (.loop (rec .ready none)) := (hk2.2.2.2.2 _ (by omega) rfl).trans hL1
    have hd2 : W2.heap[w.heap.size]? = some (.deferred (some [])) := (hk2.2.2.2.2 _ (by omega) rfl).trans hK1
    refine ⟨none, _, by have := run_endLoop (P := P) hl2 (by rw [hrec]; simp); rw [hrec] at this; exact this, ?_⟩
    have hk3 := kept_trans hk1 hk2
    refine hQ w.heap.size _ (Nat.le_refl _) ?_ ((World.putObj_heap_other (by omega)).trans hd2)
    obtain ⟨q1, q2, q3, q4, q5⟩ := hk3
    exact ⟨q1, q2, q3, by rw [World.putObj_size]; exact q4, fun k hk hn => by rw [World.putObj_heap_other (by omega)]; exact q5 k hk hn⟩
/-- A loop over a function that asks for no round: a mark more, nothing else. -/
theorem raw_never {C : Ctx} {Q : QT} {σ : SS} {code : Code} {t gf : Nat} {lb : List Value} (hc : code = .rangeFunc (.tmp t) (rfPs code) (rfAs code) (rfBd code))
    (ht : look σ.fr t = some (.g (.s (.func (.func gf) #[] lb.toArray)))) (eg : ∀ args w, (callFunc gf args).run C.P w = .ok (.enter gf args) w)
    (hs : ∀ l w, C.u0.le w → (∀ u ∈ σ.ph, u.le w) → σ.m.le w → Spec C.P gf (.func (.yield l) #[] #[] :: lb) PH.no w fun rs _ => rs = [])
    (hK : ∀ u, Q .normal { σ with ph := u :: σ.ph }) : vc C (.raw code) Q σ := by
  intro act w hR
  obtain ⟨loc, hF, hH⟩ := hR
  have hev : act.eval (.tmp t) = .func (.func gf) #[] lb.toArray := by
    obtain ⟨v, hv, hr⟩ := hF.slots t _ ht
    obtain ⟨_, rfl⟩ := hr
    simp [Act.eval, hv, GV.val]
  rw [hc]
  refine wp_rangeFunc_never hev eg (fun l W hk => ?_) fun D W hD hk hW => ?_
  · have hA := (hH.after (m := σ.m) (m1 := PH.no) (mr := σ.m) (m' := PH.no) (uni_no _).symm (dis_no _) (fun b o hb => by cases hb) (fun b hb => absurd rfl hb) hk).2.2.1
    exact hs l W hA.u0le (fun u hu => (hA.phs u hu).1) hA.mle
  · have hA := (hH.after (m := σ.m) (m1 := PH.no) (mr := σ.m) (m' := one D (.deferred (some []))) (uni_no _).symm (dis_no _) (fun b o hb => by
        simp only [one] at hb
        split at hb
        · rename_i e; subst e; cases hb; exact hW
        · cases hb) (fun b hb => .inr (by
        simp only [one] at hb
        split at hb
        · rename_i e; omega
        · exact absurd rfl hb)) hk).2.1
    refine ⟨_, hK (one D (.deferred (some []))), loc, ⟨⟨List.pairwise_cons.2 ⟨fun d hd => ?_, hF.defers.1⟩, fun d hd => ?_⟩, hF.size, hF.slots⟩, hA⟩
    · obtain ⟨D', u, h1, h2, h3⟩ := hF.defers.2 d hd
      rw [h1]
      intro e
      have e : D = D' := by simpa using e
      have := (hH.phs u h2).1 D' _ h3
      have hlt := (Array.getElem?_eq_some_iff.1 this).1
      omega
    · rcases List.mem_cons.1 hd with rfl | hd
      · exact ⟨D, one D (.deferred (some [])), rfl, by simp, by simp [one]⟩
      · obtain ⟨D', u, h1, h2, h3⟩ := hF.defers.2 d hd
        exact ⟨D', u, h1, List.mem_cons_of_mem _ h2, h3⟩
end Go.Proofs.YtmjiojflncffeaaGreat.Vc

/- Code within a round of a loop over a function. -/
set_option linter.unusedVariables false
set_option linter.unusedSimpArgs false
namespace Go.Proofs.YtmjiojflncffeaaGreat.Vc
open Go

def plainO (o : Oper) : Bool := match o.op with
  | .defer _ => false
  | _ => true
/-- Code with no order left open, no deferred call, no loop over a function, no scope. -/
def plainC : Code → Bool
  | .skip => true
  | .ret => true
  | .exit _ => true
  | .label _ => true
  | .seq a b => plainC a && plainC b
  | .cond _ a b => plainC a && plainC b
  | .block _ a => plainC a
  | .loop a => plainC a
  | .region _ ops draw => !draw && ops.all plainO
  | _ => false
/-- Where no function and no depth is barred; in a round, or in none. -/
abbrev fenceR (ro : Option Nat) : Fence := { Fence.wide with round := ro }
theorem semAt_plain (ro : Option Nat) (ρ : Operand → Value) (o : Oper) (h : ∀ c, o.op ≠ .defer c) : Oper.semAt ro ρ o = execOp ρ o := by
  cases ro with
  | some l => exact Oper.semAt_some l ρ o h
  | none => rfl
theorem callsR {P : Program} {f : FuncId} {args : Array Value} {w : World} {R : Ending → World → Prop} (ro : Option Nat) (n : Nat) : CallsIn (fenceR ro) n P f args w R ↔ Calls P f args w R := by
  cases ro with
  | some l => exact ⟨fun h => callsIn_wide.1 (CallsIn.outOfRound (l := l) (F := Fence.wide) h), fun h => CallsIn.inRound (F := Fence.wide) l (callsIn_wide.2 h)⟩
  | none => exact callsIn_wide
def noRaw : Cd → Bool
  | .seq a b => noRaw a && noRaw b
  | .ite _ a b => noRaw a && noRaw b
  | .block _ a => noRaw a
  | .loop a => noRaw a
  | .scope a => noRaw a
  | .gh a => noRaw a
  | .raw _ => false
  | _ => true
/-- Not asked: that a machine outgrows what it has. -/
def QOk (Q : QT) : Prop := ∀ σ, ¬ Q .outgrown σ

theorem listIn_of {P : Program} {ops : Array Oper} {Q : Exit → Act → World → Prop} (ro : Option Nat) (hQ : ∀ a w, ¬ Q .outgrown a w) : ∀ (L : List Oper) (a : Act) (w : World), (∀ o ∈ L, plainO o = true) → wpList P ops Q L a w → wpListIn (fenceR ro) 0 P ops Q L a w
  | [], a, w, _, h => h
  | o :: L, a, w, hp, h => by
    have ih := fun (a : Act) (w : World) => listIn_of (P := P) (ops := ops) (Q := Q) ro hQ L a w (fun o ho => hp o (List.mem_cons_of_mem _ ho))
    have hno : ∀ c, o.op ≠ .defer c := fun c e => by
      have := hp o (by simp)
      rw [plainO, e] at this; cases this
    have hlet : ¬ LetsOut Q := fun ⟨a, w, h⟩ => hQ a w h
    unfold wpList at h
    unfold wpListIn
    by_cases hw : Region.wanted o (yielded ops a.tmps) = true
    · rw [if_pos hw] at h ⊢
      rcases h with h | ⟨_, h⟩
      · refine ⟨fun _ _ => trivial, ?_⟩
        have hsem : o.semAt ro a.eval = execOp a.eval o := semAt_plain ro _ o hno
        rw [hsem]
        unfold Oper.wp at h
        generalize (execOp a.eval o).run P w = r at h ⊢
        cases r with
        | ok x w' =>
          cases x with
          | value v => exact ih _ _ h
          | skip => exact ih _ _ h
          | defer d => exact ih _ _ h
          | enter f args =>
            refine ⟨(fun h => by cases h), ((callsR ro _).2 h).mono fun e w2 he => ?_⟩
            cases e with
            | returned v => exact ih _ _ he
            | panicked ch => exact he
            | outgrown => exact he
          | row row args =>
            refine ⟨(fun h => by cases h), fun c cs _ => ?_⟩
            obtain ⟨v, w2, h1, h2⟩ := h c cs
            exact ⟨v, w2, ih _ _ h1, stepsIn_wide.2 h2⟩
          | _ => exact h.elim
        | halt x w' =>
          cases x with
          | panic v => exact h
          | _ => exact h.elim
      · exact absurd h hlet
    · rw [if_neg hw] at h ⊢
      exact ⟨fun _ _ => trivial, ih _ _ h⟩

section
variable {C : Ctx} {σ : SS} {a : Act} {w : World}
theorem QOk.lift {Q : QT} (h : QOk Q) : ∀ a w, ¬ liftQ C Q .outgrown a w := fun a w ⟨σ, hq, _⟩ => h σ hq
theorem QOk.thenQ {Q : QT} {K : KT} (h : QOk Q) : QOk (thenQ K Q) := fun σ q => h σ q
theorem QOk.blockQ {Q : QT} {id : Nat} (h : QOk Q) : QOk (blockQ id Q) := fun σ q => h σ q
theorem QOk.loopQ {Q : QT} {ι : Type} {st : ι → SS} {inv : ι → Prop} {ms : ι → Nat} {i : ι} (h : QOk Q) : QOk (loopQ st inv ms i Q) := fun σ q => h σ q
/-- What is shown of a round's body holds of it. -/
theorem vc_sound_round (ns : List (Nat × Nat)) (ro : Option Nat) : ∀ (cd : Cd) (code : Code) (Q : QT) (σ : SS) (a : Act) (w : World), comp C.P C.N ns code = er cd → noRaw cd = true → plainC code = true → QOk Q → vc C cd Q σ → Rel C σ a w → code.wpIn (fenceR ro) 0 C.P (liftQ C Q) a w := by
  intro cd
  induction cd with
  | skip =>
    intro code Q σ a w hc hn hp hQk h hR
    cases code <;> simp only [comp, er] at hc <;> (try split at hc) <;> first | (cases hc; done) | (exact (noRegion hc (by intros; simp) (by intros; simp) (by intros; simp) (by intros; simp)).elim) | skip
    · exact wpIn_skip ⟨σ, h, hR⟩
    · exact wpIn_label ⟨σ, h, hR⟩
  | ret =>
    intro code Q σ a w hc hn hp hQk h hR
    cases code <;> simp only [comp, er] at hc <;> (try split at hc) <;> first | (cases hc; done) | (exact (noRegion hc (by intros; simp) (by intros; simp) (by intros; simp) (by intros; simp)).elim) | skip
    exact wpIn_ret ⟨σ, h, hR⟩
  | exit id =>
    intro code Q σ a w hc hn hp hQk h hR
    cases code <;> simp only [comp, er] at hc <;> (try split at hc) <;> first | (cases hc; done) | (exact (noRegion hc (by intros; simp) (by intros; simp) (by intros; simp) (by intros; simp)).elim) | skip
    cases hc
    exact wpIn_exit ⟨σ, h, hR⟩
  | seq x y ihx ihy =>
    intro code Q σ a w hc hn hp hQk h hR
    cases code <;> simp only [comp, er] at hc <;> (try split at hc) <;> first | (cases hc; done) | (exact (noRegion hc (by intros; simp) (by intros; simp) (by intros; simp) (by intros; simp)).elim) | skip
    rename_i x' y'
    simp only [Cd.seq.injEq] at hc
    refine wpIn_seq (wpIn_mono (ihx x' _ σ a w hc.1 (by simp only [noRaw, Bool.and_eq_true] at hn; exact hn.1) (by simp only [plainC, Bool.and_eq_true] at hp; exact hp.1) hQk.thenQ h hR) fun e a' w' hq => ?_)
    obtain ⟨σ', hq, hR'⟩ := hq
    cases e with
    | normal => exact ihy y' Q σ' a' w' hc.2 (by simp only [noRaw, Bool.and_eq_true] at hn; exact hn.2) (by simp only [plainC, Bool.and_eq_true] at hp; exact hp.2) hQk hq hR'
    | _ => exact ⟨σ', hq, hR'⟩
  | ite c x y ihx ihy =>
    intro code Q σ a w hc hn hp hQk h hR
    cases code <;> simp only [comp, er] at hc <;> (try split at hc) <;> first | (cases hc; done) | (exact (noRegion hc (by intros; simp) (by intros; simp) (by intros; simp) (by intros; simp)).elim) | skip
    rename_i c' x' y' _ c2 hc2
    simp only [Cd.ite.injEq] at hc
    obtain ⟨rfl, h1, h2⟩ := hc
    simp only [vc, brB] at h
    split at h
    · rename_i t ht
      have hF := hR.choose_spec.1
      have hv := (hF.ev rfl ht).s
      refine wpIn_cond_split (t := t) (by rw [cOpd_eval hc2 a]; exact hv) (fun e => ihx x' Q σ a w h1 (by simp only [noRaw, Bool.and_eq_true] at hn; exact hn.1) (by simp only [plainC, Bool.and_eq_true] at hp; exact hp.1) hQk (h.1 e) hR) (fun e => ihy y' Q σ a w h2 (by simp only [noRaw, Bool.and_eq_true] at hn; exact hn.2) (by simp only [plainC, Bool.and_eq_true] at hp; exact hp.2) hQk (h.2 e) hR)
    · exact h.elim
  | block id x ih =>
    intro code Q σ a w hc hn hp hQk h hR
    cases code <;> simp only [comp, er] at hc <;> (try split at hc) <;> first | (cases hc; done) | (exact (noRegion hc (by intros; simp) (by intros; simp) (by intros; simp) (by intros; simp)).elim) | skip
    rename_i id' x'
    simp only [Cd.block.injEq] at hc
    obtain ⟨rfl, h1⟩ := hc
    refine wpIn_block (wpIn_mono (ih x' _ σ a w h1 hn hp hQk.blockQ h hR) fun e a' w' hq => ?_)
    obtain ⟨σ', hq, hR'⟩ := hq
    cases e with
    | exit j =>
      simp only [blockQ] at hq
      simp only [Exit.inBlock]
      split
      · rename_i e; rw [if_pos e] at hq; exact ⟨σ', hq, hR'⟩
      · rename_i e; rw [if_neg e] at hq; exact ⟨σ', hq, hR'⟩
    | _ => exact ⟨σ', hq, hR'⟩
  | loop x ih =>
    intro code Q σ a w hc hn hp hQk h hR
    cases code <;> simp only [comp, er] at hc <;> (try split at hc) <;> first | (cases hc; done) | (exact (noRegion hc (by intros; simp) (by intros; simp) (by intros; simp) (by intros; simp)).elim) | skip
    rename_i x'
    simp only [Cd.loop.injEq] at hc
    obtain ⟨ι, st, inv, ms, i0, hi0, hge, hstep⟩ := h
    refine wpIn_loop_ghost (fun n a w => ∃ i, inv i ∧ ms i = n ∧ Rel C (st i) a w) (ms i0) ⟨i0, hi0, rfl, hge.rel hR⟩ fun n a w hI => ?_
    obtain ⟨i, hi, rfl, hRi⟩ := hI
    refine wpIn_mono (ih x' _ (st i) a w hc hn hp hQk.loopQ (hstep i hi) hRi) fun e a' w' hq => ?_
    obtain ⟨σ', hq, hR'⟩ := hq
    cases e with
    | normal =>
      obtain ⟨j, hj, hlt, hge'⟩ := hq
      exact ⟨ms j, hlt, j, hj, rfl, hge'.rel hR'⟩
    | _ => exact ⟨σ', hq, hR'⟩
  | scope x ih =>
    intro code Q σ a w hc hn hp hQk h hR
    cases code <;> simp only [comp, er] at hc <;> (try split at hc) <;> first | (cases hc; done) | (exact (noRegion hc (by intros; simp) (by intros; simp) (by intros; simp) (by intros; simp)).elim) | skip
    cases hp
  | rg segs keep =>
    intro code Q σ a w hc hn hp hQk h hR
    cases code <;> simp only [comp, er] at hc <;> (try split at hc) <;> first | (cases hc; done) | skip
    rename_i id ops draw
    rcases compR_cases C.P C.N ns id ops draw with ⟨rfl, hd, hg, e⟩ | ⟨n, _, _, _, _, _, e⟩ | ⟨_, _, _, _, _, e⟩ | ⟨_, _, _, _, _, _, e⟩ | e
    rotate_left
    · rw [e] at hc; cases hc
    · rw [e] at hc; cases hc
    · rw [e] at hc; cases hc
    · rw [e] at hc; cases hc
    rw [e] at hc
    simp only [Cd.rg.injEq, and_true] at hc
    simp only [Array.all_eq_true_iff_forall_mem] at hd hg
    refine wpIn_region_list ?_
    have := segs_sound (C := C) (ops := ops) (K := kKeep keep Q) (Q := liftQ C Q) (fun σ' a' w' hK hR' => ⟨σ'.keep keep, hK, hR'.keep keep⟩) segs (grp ops ops.toList) σ a w hc (fun x hx o ho => by
      obtain ⟨h1, h2⟩ := grp_mem ops ops.toList x hx o ho
      exact ⟨h1, hd o (by simpa using h2), hg o (by simpa using h2)⟩) hR h
    rw [grp_flat] at this
    simp only [plainC, Bool.and_eq_true, Array.all_eq_true_iff_forall_mem] at hp
    exact listIn_of ro hQk.lift _ _ _ (fun o ho => hp.2 o (by simpa using ho)) this
  | rgq hd' tl keep =>
    intro code Q σ a w hc hn hp hQk h hR
    cases code <;> simp only [comp, er] at hc <;> (try split at hc) <;> first | (cases hc; done) | skip
    rename_i id ops draw
    rcases compR_cases C.P C.N ns id ops draw with ⟨_, _, _, e⟩ | ⟨n, rfl, _, _, _, _, e⟩ | ⟨_, _, _, _, _, e⟩ | ⟨_, _, _, _, _, _, e⟩ | e
    · rw [e] at hc; cases hc
    · simp [plainC] at hp
    · rw [e] at hc; cases hc
    · rw [e] at hc; cases hc
    · rw [e] at hc; cases hc
  | rga t keep =>
    intro code Q σ a w hc hn hp hQk h hR
    cases code <;> simp only [comp, er] at hc <;> (try split at hc) <;> first | (cases hc; done) | skip
    rename_i id ops draw
    rcases compR_cases C.P C.N ns id ops draw with ⟨_, _, _, e⟩ | ⟨n, _, _, _, _, _, e⟩ | ⟨rfl, _, _, _, _, e⟩ | ⟨rfl, _, _, _, _, _, e⟩ | e
    · rw [e] at hc; cases hc
    · rw [e] at hc; cases hc
    · simp [plainC] at hp
    · simp [plainC] at hp
    · rw [e] at hc; cases hc
  | gh x ih =>
    intro code Q σ a w hc hn hp hQk h hR
    obtain ⟨τ, hR', h'⟩ := h a w hR
    exact ih code Q τ a w hc hn hp hQk h' hR'
  | raw c =>
    intro code Q σ a w hc hn hp hQk h hR
    cases hn

end
end Go.Proofs.YtmjiojflncffeaaGreat.Vc

/- A loop over a function, its rounds: what is shown of its body for each value handed in. -/
set_option linter.unusedVariables false
set_option linter.unusedSimpArgs false
namespace Go.Proofs.YtmjiojflncffeaaGreat.Vc
open Go Go.Shelf

/-! ### Another beginning -/
noncomputable def baseOf (ph : List PH) (m : PH) (W : World) : PH := fun b => open Classical in if m b ≠ none ∨ ∃ u ∈ ph, u b ≠ none then W.heap[b]? else none
theorem baseOf_out {ph : List PH} {m : PH} {W : World} {b : Nat} (h1 : m b = none) (h2 : ∀ u ∈ ph, u b = none) : baseOf ph m W b = none := by
  rw [baseOf, if_neg]
  rintro (h | ⟨u, hu, h⟩)
  · exact h h1
  · exact h (h2 u hu)
noncomputable abbrev cx (C : Ctx) (ph : List PH) (m : PH) (W : World) : Ctx := ⟨C.P, C.N, W, baseOf ph m W⟩

section
variable {C : Ctx} {loc : Loc} {ph : List PH} {m : PH} {W : World}
theorem HR.bare {pv : List (Nat × PV)} (h : HR C loc pv ph m W) (loc' : Loc) : HR C loc' [] ph m W :=
  ⟨h.kept, (fun k y hk => by cases hk), (fun k k' y y' b o c o' c' hk => by cases hk), (fun k y b o c hk => by cases hk), h.mle, h.mmine, h.phs⟩
/-- What is not in the memory that is known lies as it lay. -/
theorem HR.other (h' : HR (cx C ph m W) loc [] ph m W) {loc' : Loc} {pv' : List (Nat × PV)} {ph' : List PH} {m' : PH} {W' : World} (h2 : HR (cx C ph m W) loc' pv' ph' m' W') {b : Nat} {o : Obj} (hb : W.heap[b]? = some o) (h3 : m b = none) (h4 : ∀ u ∈ ph, u b = none) : W'.heap[b]? = some o := by
  have hlt : b < W.heap.size := (Array.getElem?_eq_some_iff.1 hb).1
  rw [h2.kept.2.2.2.2 b hlt (baseOf_out h3 h4)]; exact hb
end

/-! ### Plain slots -/
def frG (fr : List (Nat × SV)) : Prop := ∀ t x, look fr t = some x → ∃ g, x = .g g
theorem FR.plain {loc loc' : Loc} {N : Nat} {fr : List (Nat × SV)} {pv pv' : List (Nat × PV)} {ph ph' : List PH} {a : Act} (h : FR loc N fr pv ph a) (hg : frG fr) (hs : ∀ u ∈ ph, u ∈ ph') : FR loc' N fr pv' ph' a := by
  refine ⟨h.defers.up hs, h.size, fun t x hx => ?_⟩
  obtain ⟨g, rfl⟩ := hg t x hx
  exact h.slots t _ hx

/-! ### The rule -/
end Go.Proofs.YtmjiojflncffeaaGreat.Vc

/- A loop over a function: the rule. -/
set_option linter.unusedVariables false
set_option linter.unusedSimpArgs false
namespace Go.Proofs.YtmjiojflncffeaaGreat.Vc
open Go Go.Shelf

section
variable {C : Ctx} {loc : Loc} {ph : List PH} {m : PH} {W : World}
theorem HR.put_other (h : HR C loc [] ph m W) (loc' : Loc) {l : Nat} (o : Obj) (h1 : m l = none) (h2 : ∀ u ∈ ph, u l = none) (h3 : C.w0.heap.size ≤ l) : HR C loc' [] ph m (W.putObj l o) := by
  have hne : ∀ {u : PH} {b : Nat} {o' : Obj}, u l = none → u b = some o' → b ≠ l := fun hu hb e => by rw [e, hu] at hb; cases hb
  refine ⟨?_, (fun k y hk => by cases hk), (fun k k' y y' b o c o' c' hk => by cases hk), (fun k y b o c hk => by cases hk), fun b o' hb => ?_, h.mmine, fun u hu => ⟨fun b o' hb => ?_, (h.phs u hu).2⟩⟩
  · obtain ⟨k1, k2, k3, k4, k5⟩ := h.kept
    exact ⟨k1, k2, k3, by rw [World.putObj_size]; exact k4, fun k hk hn => by rw [World.putObj_heap_other (by omega)]; exact k5 k hk hn⟩
  · rw [World.putObj_heap_other (hne h1 hb)]; exact h.mle b o' hb
  · rw [World.putObj_heap_other (hne (h2 u hu) hb)]; exact (h.phs u hu).1 b o' hb
theorem HR.grown (h : HR C loc [] ph m W) {W' : World} (hk : Kept PH.no W W') : HR C loc [] ph m W' :=
  (h.after (m := m) (m1 := PH.no) (mr := m) (m' := PH.no) (uni_no _).symm (dis_no _) (fun b o hb => by cases hb) (fun b hb => absurd rfl hb) hk).2.2.1
theorem HR.add (h : HR C loc [] ph m W) {D : Nat} {o : Obj} (hD : W.heap[D]? = some o) (h1 : m D = none) (h2 : C.w0.heap.size ≤ D) : HR C loc [] (one D o :: ph) m W := by
  refine ⟨h.kept, (fun k y hk => by cases hk), (fun k k' y y' b o c o' c' hk => by cases hk), (fun k y b o c hk => by cases hk), h.mle, h.mmine, fun u hu => ?_⟩
  rcases List.mem_cons.1 hu with rfl | hu
  · refine ⟨fun b o' hb => ?_, fun b hb => ?_⟩
    · simp only [one] at hb
      split at hb
      · rename_i e; subst e; cases hb; exact hD
      · cases hb
    · simp only [one] at hb
      split at hb
      · rename_i e; subst e; exact ⟨.inl h2, h1⟩
      · exact absurd rfl hb
  · exact h.phs u hu
end
end Go.Proofs.YtmjiojflncffeaaGreat.Vc

/- Pieces of an iterator: code by its resolved form; a piece from a fresh beginning; a region that asks for a round. -/
set_option linter.unusedVariables false
set_option linter.unusedSimpArgs false
namespace Go.Proofs.YtmjiojflncffeaaGreat.Vc
open Go Go.Shelf

section
variable {P : Program} {N : Nat} {ns : List (Nat × Nat)} {code : Code}
end

/-- What an activation's slots hold: plain values; nothing is deferred. -/
structure Slots (N : Nat) (fr : List (Nat × SV)) (a : Act) : Prop where
  defers : a.defers = []
  size : a.tmps.size = N
  at' : ∀ t x, look fr t = some x → ∃ g, x = .g g ∧ GV.ok g ∧ a.tmps[t]? = some g.val
abbrev cw (P : Program) (N : Nat) (w : World) : Ctx := ⟨P, N, w, PH.no⟩
theorem Slots.rel {P : Program} {N : Nat} {fr : List (Nat × SV)} {a : Act} (h : Slots N fr a) (w : World) : Rel (cw P N w) ⟨fr, [], [], PH.no⟩ a w := by
  refine ⟨fun _ => none, ⟨by rw [h.defers]; exact Marks.nil _, h.size, fun t x hx => ?_⟩, ⟨Kept.refl _ _, (fun k y hk => by cases hk), (fun k k' y y' b o c o' c' hk => by cases hk), (fun k y b o c hk => by cases hk), (fun b o hb => by cases hb), (fun b hb => absurd rfl hb), fun u hu => by cases hu⟩⟩
  obtain ⟨g, rfl, h1, h2⟩ := h.at' t x hx
  exact ⟨_, h2, h1, rfl⟩
/-- How a piece ends: plain slots, and nothing that was there has changed. -/
def pieceQ (R : Exit → List (Nat × SV) → Prop) : QT := fun e τ => (e = .normal ∨ e = .ret ∨ ∃ id, e = .exit id) ∧ τ.ph = [] ∧ ∃ fr, frG fr ∧ R e fr ∧ ∀ t x, look fr t = some x → look τ.fr t = some x
theorem pieceQ_ok {R : Exit → List (Nat × SV) → Prop} : QOk (pieceQ R) := fun σ h => by
  rcases h.1 with h | h | ⟨id, h⟩ <;> cases h
theorem Rel.slots {P : Program} {N : Nat} {w : World} {τ : SS} {a : Act} {w' : World} (h : Rel (cw P N w) τ a w') (hp : τ.ph = []) {fr : List (Nat × SV)} (hg : frG fr) (hs : ∀ t x, look fr t = some x → look τ.fr t = some x) : Slots N fr a ∧ Kept PH.no w w' := by
  obtain ⟨loc, hF, hH⟩ := h
  refine ⟨⟨?_, hF.size, fun t x hx => ?_⟩, hH.kept⟩
  · cases hd : a.defers with
    | nil => rfl
    | cons d ds =>
      obtain ⟨D, u, _, hu, _⟩ := hF.defers.2 d (by rw [hd]; simp)
      rw [hp] at hu; cases hu
  · obtain ⟨g, rfl⟩ := hg t x hx
    obtain ⟨v, hv, h1, h2⟩ := hF.slots t _ (hs t _ hx)
    exact ⟨g, rfl, h1, by rw [hv, h2]⟩
/-- A piece of code from a fresh beginning. -/
theorem piece {P : Program} {N : Nat} {ns : List (Nat × Nat)} {cd : Cd} {code : Code} {fr : List (Nat × SV)} {a : Act} {w : World} {R : Exit → List (Nat × SV) → Prop} {Q : Exit → Act → World → Prop} (hc : comp P N ns code = er cd) (hn : noRaw cd = true) (hp : plainC code = true)
    (hs : Slots N fr a) (h : vc (cw P N w) cd (pieceQ R) ⟨fr, [], [], PH.no⟩) (hQ : ∀ e fr' a' w', R e fr' → Slots N fr' a' → Kept PH.no w w' → (e = .normal ∨ e = .ret ∨ ∃ id, e = .exit id) → Q e a' w') : code.wpIn (fenceR none) 0 P Q a w := by
  refine wpIn_mono (vc_sound_round (C := cw P N w) ns none cd code (pieceQ R) ⟨fr, [], [], PH.no⟩ a w hc hn hp pieceQ_ok h (hs.rel w)) fun e a' w' hq => ?_
  obtain ⟨τ, ⟨he, hph, fr', hg, hR, hl⟩, hrel⟩ := hq
  obtain ⟨h1, h2⟩ := hrel.slots hph hg hl
  exact hQ e fr' a' w' hR h1 h2 he
end Go.Proofs.YtmjiojflncffeaaGreat.Vc

/- A region that asks for a round: what stands before the call, the call of yield, what stands behind it. -/
set_option linter.unusedVariables false
set_option linter.unusedSimpArgs false
namespace Go.Proofs.YtmjiojflncffeaaGreat.Vc
open Go Go.Shelf

/-! ### Parts of code -/
end Go.Proofs.YtmjiojflncffeaaGreat.Vc

/- A loop over a function whose values may be structs: the rule. -/
set_option linter.unusedVariables false
set_option linter.unusedSimpArgs false
namespace Go.Proofs.YtmjiojflncffeaaGreat.Vc
open Go Go.Shelf

end Go.Proofs.YtmjiojflncffeaaGreat.Vc

/- The code of some functions of the program, its types resolved: printed by a program of this claim. -/
set_option linter.unusedVariables false
set_option maxRecDepth 100000
namespace Go.Proofs.YtmjiojflncffeaaGreat.Vc
open Go Go.Proofs

abbrev f_oplog_Log_Ops : Nat := 24
def c_oplog_Log_Ops : Cd :=
 (.seq (.rg [⟨none, [(some 2, .mv (.c .nilFunc))]⟩] [0])
 (.seq (.rg [⟨none, [(some 3, .new 79 (.s (.slice none 0 0)))]⟩] [0, 3])
 (.seq (.seq (.rg [⟨none, [(some 4, .mv (.t 0)), (some 5, .call 35 [(.t 4)]), (some 6, .un .not (.t 5))]⟩] [0, 3, 6])
 (.ite (.t 6)
 (.rg [⟨none, [(some 7, .mv (.t 0)), (some 8, .nilc (.t 7)), (some 9, .fldA (.t 8) 3 3), (some 10, .ld (.t 9) 1 false), (some 11, .call 43 [(.t 10)]), (none, .st (.t 3) (.t 11) 1)]⟩] [3])
 .skip))
 (.seq (.rg [⟨none, [(none, .gh), (some 12, .mkf 61 [(.t 3)]), (some 2, .mv (.t 12))]⟩] [2])
 .ret))))
theorem k_oplog_Log_Ops : Ok Tryz.prog 24 c_oplog_Log_Ops 13 [] [.tmp 2] := Ok.mk' Tryz.func24 (by kernel_rfl) (by kernel_rfl) (by kernel_rfl)

abbrev f_oplog_Log_Ops_1 : Nat := 61
def c_oplog_Log_Ops_1_L0 : Cd :=
 (.seq (.rg [⟨none, [(some 8, .bin .lss (.t 7) (.t 6))]⟩] [0, 5, 6, 7, 8])
 (.seq (.ite (.t 8)
 .skip
 (.exit 0))
 (.seq (.block 1 (.seq (.rg [⟨none, [(some 9, .idxS (.t 5) (.t 7) 22), (some 10, .ld (.t 9) 22 true), (some 4, .new 97 (.c (.c (.c (.s (.int .i64 0)) (.c (.s (.int .i64 0)) .u)) (.c (.s (.int .i64 0)) (.c (.s (.int .i64 0)) (.c (.s (.int .i64 0)) (.c (.s (.string ⟨#[]⟩)) (.c (.s (.string ⟨#[]⟩)) (.c (.s (.string ⟨#[]⟩)) .u))))))) (.c (.s (.bool false)) (.c (.c (.s (.pointer none)) (.c (.s (.int .i64 0)) (.c (.c (.c (.s (.int .i64 0)) (.c (.s (.int .i64 0)) .u)) (.c (.s (.int .i64 0)) (.c (.s (.int .i64 0)) (.c (.s (.int .i64 0)) (.c (.s (.string ⟨#[]⟩)) (.c (.s (.string ⟨#[]⟩)) (.c (.s (.string ⟨#[]⟩)) .u))))))) (.c (.c (.s (.int .i64 0)) (.c (.s (.string ⟨#[]⟩)) .u)) (.c (.s (.string ⟨#[]⟩)) .u))))) .u)))), (none, .st (.t 4) (.t 10) 22)]⟩] [0, 4, 5, 6, 7])
 (.seq (.rg [⟨none, [(some 11, .mv (.t 0)), (some 12, .fldA (.t 4) 0 0), (some 13, .ld (.t 12) 8 true), (some 14, .fldA (.t 4) 1 8), (some 15, .ld (.t 14) 1 false), (some 16, .callV (.t 11) [(.t 13), (.t 15)]), (some 17, .un .not (.t 16))]⟩] [0, 5, 6, 7, 17])
 (.ite (.t 17)
 .ret
 .skip))))
 (.rg [⟨none, [(some 18, .bin .add (.t 7) (.c (.int .i64 1))), (some 7, .mv (.t 18))]⟩] [0, 5, 6, 7]))))
def c_oplog_Log_Ops_1 : Cd :=
 (.seq (.rg [⟨none, [(some 5, .ld (.t 1) 1 false), (some 6, .len (.t 5)), (some 7, .mv (.c (.int .i64 0)))]⟩] [0, 5, 6, 7])
 (.block 0 (.loop c_oplog_Log_Ops_1_L0)))
theorem k_oplog_Log_Ops_1 : Ok Tryz.prog 61 c_oplog_Log_Ops_1 19 [] [] := Ok.mk' Tryz.func61 (by kernel_rfl) (by kernel_rfl) (by kernel_rfl)

end Go.Proofs.YtmjiojflncffeaaGreat.Vc

/- What Ops answers is an iterator over the operations that it captured. -/
set_option linter.unusedVariables false
set_option linter.unusedSimpArgs false
set_option maxRecDepth 100000
namespace Go.Proofs.YtmjiojflncffeaaGreat.Vc
open Go Go.Proofs Go.Shelf

/-- The slots at the head of the loop. -/
def hd1 (yv v : Value) (n i : Nat) : List (Nat × SV) := [(0, .g (.s yv)), (5, .g (.s v)), (6, .g (.s (.int .i64 (n)))), (7, .g (.s (.int .i64 (i))))]
theorem Slots.sub {N : Nat} {fr fr' : List (Nat × SV)} {a : Act} (h : Slots N fr a) (hs : ∀ t x, look fr' t = some x → look fr t = some x) : Slots N fr' a := ⟨h.defers, h.size, fun t x hx => h.at' t x (hs t x hx)⟩
end Go.Proofs.YtmjiojflncffeaaGreat.Vc

/- The code of some functions of the program, its types resolved: printed by a program of this claim. -/
set_option linter.unusedVariables false
set_option maxRecDepth 100000
namespace Go.Proofs.YtmjiojflncffeaaGreat.Vc
open Go Go.Proofs

abbrev f_oplog_Log_Clone : Nat := 31
def c_oplog_Log_Clone_L0 : Cd :=
 (.seq (.rg [⟨none, [(some 35, .bin .lss (.t 34) (.t 33))]⟩] [3, 32, 33, 34, 35])
 (.seq (.ite (.t 35)
 .skip
 (.exit 0))
 (.seq (.block 1 (.seq (.rg [⟨none, [(some 36, .idxS (.t 32) (.t 34) 22), (some 37, .ld (.t 36) 22 true), (some 5, .new 97 (.c (.c (.c (.s (.int .i64 0)) (.c (.s (.int .i64 0)) .u)) (.c (.s (.int .i64 0)) (.c (.s (.int .i64 0)) (.c (.s (.int .i64 0)) (.c (.s (.string ⟨#[]⟩)) (.c (.s (.string ⟨#[]⟩)) (.c (.s (.string ⟨#[]⟩)) .u))))))) (.c (.s (.bool false)) (.c (.c (.s (.pointer none)) (.c (.s (.int .i64 0)) (.c (.c (.c (.s (.int .i64 0)) (.c (.s (.int .i64 0)) .u)) (.c (.s (.int .i64 0)) (.c (.s (.int .i64 0)) (.c (.s (.int .i64 0)) (.c (.s (.string ⟨#[]⟩)) (.c (.s (.string ⟨#[]⟩)) (.c (.s (.string ⟨#[]⟩)) .u))))))) (.c (.c (.s (.int .i64 0)) (.c (.s (.string ⟨#[]⟩)) .u)) (.c (.s (.string ⟨#[]⟩)) .u))))) .u)))), (none, .st (.t 5) (.t 37) 22)]⟩] [3, 5, 32, 33, 34])
 (.seq (.rga (.op ⟨none, [(some 39, .mv (.t 3))]⟩ (.op ⟨none, [(some 40, .nilc (.t 39))]⟩ (.op ⟨none, [(some 41, .fldA (.t 40) 0 0)]⟩ (.op ⟨none, [(some 42, .fldA (.t 41) 0 0)]⟩ (.op ⟨none, [(some 44, .fldA (.t 5) 0 0)]⟩ (.or (.op ⟨none, [(some 43, .ld (.t 42) 1 false)]⟩ (.op ⟨none, [(some 45, .ld (.t 44) 8 true)]⟩ (.op ⟨none, [(some 46, .call 27 [(.t 43), (.t 45)])]⟩ (.op ⟨none, [(some 38, .mv (.t 46))]⟩ (.op ⟨none, [(some 47, .ext (.t 38) 0)]⟩ (.op ⟨none, [(some 48, .ext (.t 38) 1)]⟩ (.op ⟨none, [(some 49, .fldA (.t 5) 2 9)]⟩ (.op ⟨none, [(none, .st (.t 49) (.t 47) 13)]⟩ (.op ⟨none, [(some 50, .fldA (.t 5) 1 8)]⟩ (.op ⟨none, [(none, .st (.t 50) (.t 48) 1)]⟩ .done)))))))))) (.op ⟨none, [(some 45, .ld (.t 44) 8 true)]⟩ (.op ⟨none, [(some 43, .ld (.t 42) 1 false)]⟩ (.op ⟨none, [(some 46, .call 27 [(.t 43), (.t 45)])]⟩ (.op ⟨none, [(some 38, .mv (.t 46))]⟩ (.op ⟨none, [(some 47, .ext (.t 38) 0)]⟩ (.op ⟨none, [(some 48, .ext (.t 38) 1)]⟩ (.op ⟨none, [(some 49, .fldA (.t 5) 2 9)]⟩ (.op ⟨none, [(none, .st (.t 49) (.t 47) 13)]⟩ (.op ⟨none, [(some 50, .fldA (.t 5) 1 8)]⟩ (.op ⟨none, [(none, .st (.t 50) (.t 48) 1)]⟩ .done)))))))))))))))) [3, 5, 32, 33, 34])
 (.rga (.op ⟨none, [(some 51, .mv (.t 3))]⟩ (.op ⟨none, [(some 52, .mv (.t 3))]⟩ (.op ⟨none, [(some 53, .nilc (.t 52))]⟩ (.op ⟨none, [(some 54, .fldA (.t 53) 3 3)]⟩ (.or (.op ⟨none, [(some 55, .ld (.t 54) 1 false)]⟩ (.op ⟨none, [(some 56, .ld (.t 5) 22 true)]⟩ (.op ⟨none, [(some 57, .bldS 97 22 (.c (.c (.c (.s (.int .i64 0)) (.c (.s (.int .i64 0)) .u)) (.c (.s (.int .i64 0)) (.c (.s (.int .i64 0)) (.c (.s (.int .i64 0)) (.c (.s (.string ⟨#[]⟩)) (.c (.s (.string ⟨#[]⟩)) (.c (.s (.string ⟨#[]⟩)) .u))))))) (.c (.s (.bool false)) (.c (.c (.s (.pointer none)) (.c (.s (.int .i64 0)) (.c (.c (.c (.s (.int .i64 0)) (.c (.s (.int .i64 0)) .u)) (.c (.s (.int .i64 0)) (.c (.s (.int .i64 0)) (.c (.s (.int .i64 0)) (.c (.s (.string ⟨#[]⟩)) (.c (.s (.string ⟨#[]⟩)) (.c (.s (.string ⟨#[]⟩)) .u))))))) (.c (.c (.s (.int .i64 0)) (.c (.s (.string ⟨#[]⟩)) .u)) (.c (.s (.string ⟨#[]⟩)) .u))))) .u))) [(.t 56)])]⟩ (.op ⟨none, [(some 58, .app 97 22 240 (.c (.c (.c (.s (.int .i64 0)) (.c (.s (.int .i64 0)) .u)) (.c (.s (.int .i64 0)) (.c (.s (.int .i64 0)) (.c (.s (.int .i64 0)) (.c (.s (.string ⟨#[]⟩)) (.c (.s (.string ⟨#[]⟩)) (.c (.s (.string ⟨#[]⟩)) .u))))))) (.c (.s (.bool false)) (.c (.c (.s (.pointer none)) (.c (.s (.int .i64 0)) (.c (.c (.c (.s (.int .i64 0)) (.c (.s (.int .i64 0)) .u)) (.c (.s (.int .i64 0)) (.c (.s (.int .i64 0)) (.c (.s (.int .i64 0)) (.c (.s (.string ⟨#[]⟩)) (.c (.s (.string ⟨#[]⟩)) (.c (.s (.string ⟨#[]⟩)) .u))))))) (.c (.c (.s (.int .i64 0)) (.c (.s (.string ⟨#[]⟩)) .u)) (.c (.s (.string ⟨#[]⟩)) .u))))) .u))) (.t 55) (.t 57))]⟩ (.op ⟨none, [(some 59, .nilc (.t 51))]⟩ (.op ⟨none, [(some 60, .fldA (.t 59) 3 3)]⟩ (.op ⟨none, [(none, .st (.t 60) (.t 58) 1)]⟩ .done))))))) (.op ⟨none, [(some 56, .ld (.t 5) 22 true)]⟩ (.or (.op ⟨none, [(some 55, .ld (.t 54) 1 false)]⟩ (.op ⟨none, [(some 57, .bldS 97 22 (.c (.c (.c (.s (.int .i64 0)) (.c (.s (.int .i64 0)) .u)) (.c (.s (.int .i64 0)) (.c (.s (.int .i64 0)) (.c (.s (.int .i64 0)) (.c (.s (.string ⟨#[]⟩)) (.c (.s (.string ⟨#[]⟩)) (.c (.s (.string ⟨#[]⟩)) .u))))))) (.c (.s (.bool false)) (.c (.c (.s (.pointer none)) (.c (.s (.int .i64 0)) (.c (.c (.c (.s (.int .i64 0)) (.c (.s (.int .i64 0)) .u)) (.c (.s (.int .i64 0)) (.c (.s (.int .i64 0)) (.c (.s (.int .i64 0)) (.c (.s (.string ⟨#[]⟩)) (.c (.s (.string ⟨#[]⟩)) (.c (.s (.string ⟨#[]⟩)) .u))))))) (.c (.c (.s (.int .i64 0)) (.c (.s (.string ⟨#[]⟩)) .u)) (.c (.s (.string ⟨#[]⟩)) .u))))) .u))) [(.t 56)])]⟩ (.op ⟨none, [(some 58, .app 97 22 240 (.c (.c (.c (.s (.int .i64 0)) (.c (.s (.int .i64 0)) .u)) (.c (.s (.int .i64 0)) (.c (.s (.int .i64 0)) (.c (.s (.int .i64 0)) (.c (.s (.string ⟨#[]⟩)) (.c (.s (.string ⟨#[]⟩)) (.c (.s (.string ⟨#[]⟩)) .u))))))) (.c (.s (.bool false)) (.c (.c (.s (.pointer none)) (.c (.s (.int .i64 0)) (.c (.c (.c (.s (.int .i64 0)) (.c (.s (.int .i64 0)) .u)) (.c (.s (.int .i64 0)) (.c (.s (.int .i64 0)) (.c (.s (.int .i64 0)) (.c (.s (.string ⟨#[]⟩)) (.c (.s (.string ⟨#[]⟩)) (.c (.s (.string ⟨#[]⟩)) .u))))))) (.c (.c (.s (.int .i64 0)) (.c (.s (.string ⟨#[]⟩)) .u)) (.c (.s (.string ⟨#[]⟩)) .u))))) .u))) (.t 55) (.t 57))]⟩ (.op ⟨none, [(some 59, .nilc (.t 51))]⟩ (.op ⟨none, [(some 60, .fldA (.t 59) 3 3)]⟩ (.op ⟨none, [(none, .st (.t 60) (.t 58) 1)]⟩ .done)))))) (.op ⟨none, [(some 57, .bldS 97 22 (.c (.c (.c (.s (.int .i64 0)) (.c (.s (.int .i64 0)) .u)) (.c (.s (.int .i64 0)) (.c (.s (.int .i64 0)) (.c (.s (.int .i64 0)) (.c (.s (.string ⟨#[]⟩)) (.c (.s (.string ⟨#[]⟩)) (.c (.s (.string ⟨#[]⟩)) .u))))))) (.c (.s (.bool false)) (.c (.c (.s (.pointer none)) (.c (.s (.int .i64 0)) (.c (.c (.c (.s (.int .i64 0)) (.c (.s (.int .i64 0)) .u)) (.c (.s (.int .i64 0)) (.c (.s (.int .i64 0)) (.c (.s (.int .i64 0)) (.c (.s (.string ⟨#[]⟩)) (.c (.s (.string ⟨#[]⟩)) (.c (.s (.string ⟨#[]⟩)) .u))))))) (.c (.c (.s (.int .i64 0)) (.c (.s (.string ⟨#[]⟩)) .u)) (.c (.s (.string ⟨#[]⟩)) .u))))) .u))) [(.t 56)])]⟩ (.op ⟨none, [(some 55, .ld (.t 54) 1 false)]⟩ (.op ⟨none, [(some 58, .app 97 22 240 (.c (.c (.c (.s (.int .i64 0)) (.c (.s (.int .i64 0)) .u)) (.c (.s (.int .i64 0)) (.c (.s (.int .i64 0)) (.c (.s (.int .i64 0)) (.c (.s (.string ⟨#[]⟩)) (.c (.s (.string ⟨#[]⟩)) (.c (.s (.string ⟨#[]⟩)) .u))))))) (.c (.s (.bool false)) (.c (.c (.s (.pointer none)) (.c (.s (.int .i64 0)) (.c (.c (.c (.s (.int .i64 0)) (.c (.s (.int .i64 0)) .u)) (.c (.s (.int .i64 0)) (.c (.s (.int .i64 0)) (.c (.s (.int .i64 0)) (.c (.s (.string ⟨#[]⟩)) (.c (.s (.string ⟨#[]⟩)) (.c (.s (.string ⟨#[]⟩)) .u))))))) (.c (.c (.s (.int .i64 0)) (.c (.s (.string ⟨#[]⟩)) .u)) (.c (.s (.string ⟨#[]⟩)) .u))))) .u))) (.t 55) (.t 57))]⟩ (.op ⟨none, [(some 59, .nilc (.t 51))]⟩ (.op ⟨none, [(some 60, .fldA (.t 59) 3 3)]⟩ (.op ⟨none, [(none, .st (.t 60) (.t 58) 1)]⟩ .done))))))))))))) [3, 32, 33, 34]))))
 (.rg [⟨none, [(some 61, .bin .add (.t 34) (.c (.int .i64 1))), (some 34, .mv (.t 61))]⟩] [3, 32, 33, 34]))))
def c_oplog_Log_Clone : Cd :=
 (.seq (.rg [⟨none, [(some 2, .mv (.c (.pointer none)))]⟩] [0])
 (.seq (.seq (.rg [⟨none, [(some 6, .mv (.t 0)), (some 7, .call 35 [(.t 6)])]⟩] [0, 7])
 (.ite (.t 7)
 (.seq (.rg [⟨none, [(some 2, .mv (.c (.pointer none)))]⟩] [2])
 .ret)
 .skip))
 (.seq (.rgq [⟨none, [(some 8, .mv (.t 0)), (some 9, .nilc (.t 8)), (some 10, .fldA (.t 9) 1 1), (some 11, .ld (.t 10) 1 false), (some 12, .call 54 [(.t 11)]), (some 13, .bld (.c (.s (.pointer none)) .u) [(0, (.t 12))]), (some 14, .mv (.t 0)), (some 15, .nilc (.t 14)), (some 16, .fldA (.t 15) 1 1), (some 17, .ld (.t 16) 1 false), (some 18, .call 54 [(.t 17)]), (some 19, .mv (.t 0)), (some 20, .nilc (.t 19)), (some 21, .fldA (.t 20) 2 2), (some 22, .ld (.t 21) 1 false), (some 23, .mv (.t 0)), (some 24, .nilc (.t 23)), (some 25, .fldA (.t 24) 4 4), (some 26, .ld (.t 25) 1 false)]⟩] [⟨none, [(some 27, .bld (.c (.c (.s (.pointer none)) .u) (.c (.s (.pointer none)) (.c (.s (.int .i64 0)) (.c (.s (.slice none 0 0)) (.c (.s (.int .i64 0)) .u))))) [(0, (.t 13)), (1, (.t 18)), (2, (.t 22)), (4, (.t 26))]), (some 28, .box 81 (.t 27)), (some 3, .mv (.t 28))]⟩] [0, 3])
 (.seq (.seq (.rg [⟨none, [(some 29, .mv (.t 0)), (some 30, .nilc (.t 29)), (some 31, .fldA (.t 30) 3 3), (some 32, .ld (.t 31) 1 false), (some 33, .len (.t 32)), (some 34, .mv (.c (.int .i64 0)))]⟩] [3, 32, 33, 34])
 (.block 0 (.loop c_oplog_Log_Clone_L0)))
 (.seq (.rg [⟨none, [(some 62, .mv (.t 3)), (some 2, .mv (.t 62))]⟩] [2])
 .ret)))))
theorem k_oplog_Log_Clone : Ok Tryz.prog 31 c_oplog_Log_Clone 63 [(3, 19), (7, 999999), (8, 999999)] [.tmp 2] := Ok.mk' Tryz.func31 (by kernel_rfl) (by kernel_rfl) (by kernel_rfl)

abbrev f_law13_OplogNone : Nat := 10
noncomputable def c_law13_OplogNone_W0 : Code := ((((Tryz.f10.body.map rawsC).getD [])[0]?).getD .skip)
noncomputable def c_law13_OplogNone_L0 : Cd :=
 (.seq (.rg [⟨none, [(some 16, .bin .lss (.t 15) (.t 14))]⟩] [1, 2, 13, 14, 15, 16])
 (.seq (.ite (.t 16)
 .skip
 (.exit 0))
 (.seq (.block 1 (.seq (.rg [⟨none, [(some 17, .idxS (.t 13) (.t 15) 1), (some 18, .ld (.t 17) 1 false), (some 4, .mv (.t 18))]⟩] [1, 2, 4, 13, 14, 15])
 (.seq (.rg [⟨none, [(some 20, .mv (.t 4)), (some 21, .ld (.t 1) 8 true), (some 22, .bldS 26 8 (.c (.c (.s (.int .i64 0)) (.c (.s (.int .i64 0)) .u)) (.c (.s (.int .i64 0)) (.c (.s (.int .i64 0)) (.c (.s (.int .i64 0)) (.c (.s (.string ⟨#[]⟩)) (.c (.s (.string ⟨#[]⟩)) (.c (.s (.string ⟨#[]⟩)) .u))))))) [(.t 21)]), (some 23, .call 14 [(.t 20), (.t 22)]), (some 19, .mv (.t 23)), (some 24, .ext (.t 19) 0), (some 25, .ext (.t 19) 1), (some 5, .mv (.t 24)), (some 6, .mv (.t 25))]⟩] [1, 2, 4, 5, 6, 13, 14, 15])
 (.seq (.rg [⟨none, [(some 27, .mv (.t 4)), (some 28, .ld (.t 1) 8 true), (some 29, .call 18 [(.t 27), (.t 28)]), (some 26, .mv (.t 29)), (some 30, .ext (.t 26) 0), (some 31, .ext (.t 26) 1), (some 7, .mv (.t 30)), (some 8, .mv (.t 31))]⟩] [1, 2, 4, 5, 6, 7, 8, 13, 14, 15])
 (.seq (.seq (.rg [⟨none, [(some 32, .mv (.t 5)), (some 33, .bin .neq (.t 32) (.c (.int .i64 0))), (some 34, .mv (.t 33))]⟩, ⟨some (34, false), [(some 35, .mv (.t 6)), (some 36, .bin .neq (.t 35) (.c (.int .i64 2)))]⟩, ⟨none, [(some 37, .pick (.t 34) (.c (.bool true)) (.t 36)), (some 38, .mv (.t 37))]⟩, ⟨some (38, false), [(some 39, .mv (.t 7))]⟩, ⟨none, [(some 40, .pick (.t 38) (.c (.bool true)) (.t 39)), (some 41, .mv (.t 40))]⟩, ⟨some (41, false), [(some 42, .mv (.t 8)), (some 43, .bin .neq (.t 42) (.c (.int .i64 2)))]⟩, ⟨none, [(some 44, .pick (.t 41) (.c (.bool true)) (.t 43)), (some 45, .mv (.t 44))]⟩, ⟨some (45, false), [(some 46, .mv (.t 4)), (some 47, .call 23 [(.t 46), (.c (.int .i64 0))]), (some 48, .bin .neq (.t 47) (.c (.int .i64 2)))]⟩, ⟨none, [(some 49, .pick (.t 45) (.c (.bool true)) (.t 48)), (some 50, .mv (.t 49))]⟩, ⟨some (50, false), [(some 51, .mv (.t 4)), (some 52, .call 30 [(.t 51)]), (some 53, .bin .neq (.t 52) (.c (.int .i64 0)))]⟩, ⟨none, [(some 54, .pick (.t 50) (.c (.bool true)) (.t 53)), (some 55, .mv (.t 54))]⟩, ⟨some (55, false), [(some 56, .mv (.t 4)), (some 57, .call 22 [(.t 56)]), (some 58, .bin .neq (.t 57) (.c (.int .i64 0)))]⟩, ⟨none, [(some 59, .pick (.t 55) (.c (.bool true)) (.t 58)), (some 60, .mv (.t 59))]⟩, ⟨some (60, false), [(some 61, .mv (.t 4)), (some 62, .call 19 [(.t 61)]), (some 63, .eqA true 40 (.t 62) (.c (.pointer none)))]⟩, ⟨none, [(some 64, .pick (.t 60) (.c (.bool true)) (.t 63)), (some 65, .mv (.t 64))]⟩, ⟨some (65, false), [(some 66, .mv (.t 4)), (some 67, .call 28 [(.t 66)]), (some 68, .len (.t 67)), (some 69, .bin .neq (.t 68) (.c (.int .i64 0)))]⟩, ⟨none, [(some 70, .pick (.t 65) (.c (.bool true)) (.t 69)), (some 71, .mv (.t 70))]⟩, ⟨some (71, false), [(some 72, .mv (.t 4)), (some 73, .call 17 [(.t 72)]), (some 74, .bin .neq (.t 73) (.c (.int .i64 0)))]⟩, ⟨none, [(some 75, .pick (.t 71) (.c (.bool true)) (.t 74)), (some 76, .mv (.t 75))]⟩, ⟨some (76, false), [(some 77, .mv (.t 4)), (some 78, .call 31 [(.t 77)]), (some 79, .eqA true 27 (.t 78) (.c (.pointer none)))]⟩, ⟨none, [(some 80, .pick (.t 76) (.c (.bool true)) (.t 79))]⟩] [1, 2, 4, 13, 14, 15, 80])
 (.ite (.t 80)
 (.seq (.rg [⟨none, [(none, .st (.t 2) (.c (.bool false)) 1)]⟩] [2])
 .ret)
 .skip))
 (.seq (.rg [⟨none, [(some 81, .mv (.t 4)), (some 82, .call 24 [(.t 81)])]⟩] [1, 2, 13, 14, 15, 82])
 (.block 2 (.raw c_law13_OplogNone_W0))))))))
 (.rg [⟨none, [(some 85, .bin .add (.t 15) (.c (.int .i64 1))), (some 15, .mv (.t 85))]⟩] [1, 2, 13, 14, 15]))))
noncomputable def c_law13_OplogNone : Cd :=
 (.seq (.rg [⟨none, [(some 1, .box 26 (.t 0)), (some 2, .new 4 (.s (.bool false)))]⟩] [1, 2])
 (.seq (.seq (.rg [⟨none, [(some 9, .call 13 []), (some 10, .un .not (.t 9))]⟩] [1, 2, 10])
 (.ite (.t 10)
 (.seq (.rg [⟨none, [(none, .st (.t 2) (.c (.bool false)) 1)]⟩] [2])
 .ret)
 .skip))
 (.seq (.seq (.rg [⟨none, [(some 11, .bld (.c (.c (.s (.pointer none)) .u) (.c (.s (.pointer none)) (.c (.s (.int .i64 0)) (.c (.s (.slice none 0 0)) (.c (.s (.int .i64 0)) .u))))) []), (some 12, .box 81 (.t 11)), (none, .gh), (some 13, .bldS 27 1 (.s (.pointer none)) [(.c (.pointer none)), (.t 12)]), (some 14, .len (.t 13)), (some 15, .mv (.c (.int .i64 0)))]⟩] [1, 2, 13, 14, 15])
 (.block 0 (.loop c_law13_OplogNone_L0)))
 (.seq (.rg [⟨none, [(none, .st (.t 2) (.c (.bool true)) 1)]⟩] [2])
 .ret))))
theorem k_law13_OplogNone : Ok Tryz.prog 10 c_law13_OplogNone 86 [] [.cell 2 1 false] := Ok.mk' Tryz.func10 (by kernel_rfl) (by kernel_rfl) (by kernel_rfl)

end Go.Proofs.YtmjiojflncffeaaGreat.Vc

/- A log that no call made: what is answered. -/
set_option linter.unusedVariables false
set_option linter.unusedSimpArgs false
set_option maxRecDepth 100000
namespace Go.Proofs.YtmjiojflncffeaaGreat.Vc
open Go Go.Proofs Go.Shelf

/-- A log that no call made: nil, or one whose cells are all zero. -/
def NoLog (u : PH) (lp : Value) : Prop := lp = .pointer none ∨ ∃ b e, lp = ptr b ∧ u b = some (.cells #[.pointer none, .pointer none, .int .i64 0, .slice none 0 0, .int .i64 0] e (0, 0))
theorem NoLog.one {u : PH} {lp : Value} (h : NoLog u lp) : lp.oneCell' = true := by
  rcases h with rfl | ⟨b, e, rfl, _⟩ <;> rfl
theorem eqLogNil : EqG Tryz.prog 27 (.s (.pointer none)) (.s (.pointer none)) true := eqG_nilp (e := 81) (by kernel_rfl)
theorem eqTreeNil : EqG Tryz.prog 40 (.s (.pointer none)) (.s (.pointer none)) true := eqG_nilp Tryz.underlying40
section
variable {w : World} {u : PH} {lp : Value}
theorem noNone_spec (hu : u.le w) (h : NoLog u lp) : Spec Tryz.prog f_oplog_Log_none [lp] PH.no w fun rs _ => rs = [.s (.bool true)] := by
  refine spec_val k_oplog_Log_none (Qf := fun rs => rs = [.s (.bool true)]) [.g (.s lp)] (by simp) (by simp [AV.ok, GV.ok, h.one]) ?_
  rcases h with rfl | ⟨b, e, rfl, hb⟩
  · simp (maxSteps := 2000000) only [c_oplog_Log_none, vc_seq, vc_rg, thenQ_n, kKeep_eq, segs_nil, segs_n, ops_nil, ops_cons, vcOp, ev, look, put_mk, keep_mk, keepL, Value.oneCell', cond_true, ↓reduceIte, reduceCtorEq, initF, initP]
    refine eq_of eqLogNil ?_
    simp (maxSteps := 2000000) only [vc_ret, thenQ_n, kKeep_eq, segs_nil, segs_n, segs_g, ops_nil, ops_cons, vcOp, RO.isGh, skip_mk, skipL, ev, look, put_mk, keep_mk, keepL, Value.oneCell', cond_true, cond_false, Nat.reduceEqDiff, ↓reduceIte, Bool.not_false, finW_r, resL, resOne, ↓br_tt, ↓br_tf, Bool.bne_false]
  · simp (maxSteps := 2000000) only [c_oplog_Log_none, ptr, vc_seq, vc_rg, thenQ_n, kKeep_eq, segs_nil, segs_n, ops_nil, ops_cons, vcOp, ev, look, put_mk, keep_mk, keepL, Value.oneCell', cond_true, ↓reduceIte, reduceCtorEq, initF, initP, ptr]
    refine eq_of (eqLog b) ?_
    simp (maxSteps := 2000000) only [segs_g, ops_nil, ops_cons, vcOp, ev, look, put_mk, ↓reduceIte, reduceCtorEq, Nat.zero_add, ↓br_ff, Bool.bne_false]
    refine ld_of _ (seen_cell (kn_u hu) hb (j := 1) (v := .pointer none) rfl rfl) rfl ?_
    simp (maxSteps := 2000000) only [ops_cons, vcOp, ev, look, put_mk, Value.oneCell', cond_true, ↓reduceIte]
    refine eq_of eqTreeNil ?_
    simp (maxSteps := 2000000) only [vc_ret, thenQ_n, kKeep_eq, segs_nil, segs_n, ops_nil, ops_cons, vcOp, ev, look, put_mk, keep_mk, keepL, Value.oneCell', cond_true, Nat.reduceEqDiff, ↓reduceIte, finW_r, resL, resOne, ↓br_ft, Bool.bne_false]
theorem call_none {N : Nat} {σ : SS} {d : Option Nat} {K : KT} {x : Opd} (hu : u.le w) (h : NoLog u lp) (hd : dOk d N = true) (hx : evL σ [x] = some [.g (.s lp)]) (hK : K (σ.put d (.g (.s (.bool true))))) : vcCall ⟨Tryz.prog, N, w, PH.no⟩ f_oplog_Log_none [x] d K σ :=
  call_is _ [.s (.bool true)] hd hx (fun w' vs hv hw _ => by
    obtain ⟨vs, rfl, _, hv⟩ := argsV_g hv
    obtain rfl := argsV_nil hv
    exact noNone_spec (fun b o hb => hw b o (by rw [u0_no]; exact hu b o hb)) h) hK
theorem noAdd_spec (hu : u.le w) (h : NoLog u lp) (v : Value) (ops : List Op) (hS : SlR w.ph v 8 (ops.map gOp)) : Spec Tryz.prog f_oplog_Log_Add [lp, v] PH.no w fun rs _ => rs = [.s (.int .i64 0), .s (.int .i64 2)] := by
  refine spec_val k_oplog_Log_Add (Qf := fun rs => rs = [.s (.int .i64 0), .s (.int .i64 2)]) [.g (.s lp), .ro v 8 (gOp zOp) (ops.map gOp)] (by simp) (by simpa [AV.ok, GV.ok, h.one, u0_no] using hS) ?_
  simp (maxSteps := 2000000) only [c_oplog_Log_Add, vc_seq, vc_rg, thenQ_n, kKeep_eq, segs_nil, segs_n, ops_nil, ops_cons, vcOp, ev, look, put_mk, keep_mk, keepL, Value.oneCell', cond_true, Nat.reduceEqDiff, ↓reduceIte, reduceCtorEq, Nat.zero_add, initF, initP, List.length_map]
  refine call_none hu h rfl rfl ?_
  simp (maxSteps := 2000000) only [vc_ret, vc_seq, vc_rg, vc_ite, thenQ_n, thenQ_r, kKeep_eq, segs_nil, segs_n, ops_nil, ops_cons, vcOp, ev, look, put_mk, keep_mk, keepL, Value.oneCell', cond_true, Nat.reduceEqDiff, ↓reduceIte, reduceCtorEq, finW_r, resL, resOne, ↓br_tt]
theorem noWould_spec (hu : u.le w) (h : NoLog u lp) (op : Op) : Spec Tryz.prog f_oplog_Log_Would [lp, (gOp op).val] PH.no w fun rs _ => rs = [.s (.bool false), .s (.int .i64 2)] := by
  refine spec_val k_oplog_Log_Would (Qf := fun rs => rs = [.s (.bool false), .s (.int .i64 2)]) [.g (.s lp), .g (gOp op)] (by simp) (by simp [AV.ok, GV.ok, h.one, gOp_ok]) ?_
  simp (maxSteps := 2000000) only [c_oplog_Log_Would, vc_seq, vc_rg, thenQ_n, kKeep_eq, segs_nil, segs_n, ops_nil, ops_cons, vcOp, ev, look, updL, put_mk, keep_mk, keepL, Value.oneCell', cond_true, Nat.reduceEqDiff, ↓reduceIte, reduceCtorEq, Nat.zero_add, Bool.true_and, true_and, initF, initP]
  refine call_none hu h rfl rfl ?_
  simp (maxSteps := 2000000) only [vc_ret, vc_seq, vc_rg, vc_ite, thenQ_n, thenQ_r, kKeep_eq, segs_nil, segs_n, ops_nil, ops_cons, vcOp, ev, look, put_mk, keep_mk, keepL, Value.oneCell', cond_true, Nat.reduceEqDiff, ↓reduceIte, reduceCtorEq, finW_r, resL, resOne, ↓br_tt]
theorem noCut_spec (hu : u.le w) (h : NoLog u lp) (t : Int) : Spec Tryz.prog f_oplog_Log_Cut [lp, .int .i64 t] PH.no w fun rs _ => rs = [.s (.int .i64 2)] := by
  refine spec_val k_oplog_Log_Cut (Qf := fun rs => rs = [.s (.int .i64 2)]) [.g (.s lp), .g (.s (.int .i64 t))] (by simp) (fun x hx => by
    simp only [List.mem_cons, List.not_mem_nil, or_false] at hx
    rcases hx with rfl | rfl
    · exact h.one
    · rfl) ?_
  simp (maxSteps := 2000000) only [c_oplog_Log_Cut, vc_seq, vc_block, vc_rg, thenQ_n, kKeep_eq, segs_nil, segs_n, ops_nil, ops_cons, vcOp, ev, look, put_mk, keep_mk, keepL, Value.oneCell', cond_true, Nat.reduceEqDiff, ↓reduceIte, reduceCtorEq, Nat.zero_add, initF, initP]
  refine call_none hu h rfl rfl ?_
  simp (maxSteps := 2000000) only [vc_ret, vc_seq, vc_rg, vc_ite, thenQ_n, thenQ_r, blockQ_r, kKeep_eq, segs_nil, segs_n, ops_nil, ops_cons, vcOp, ev, look, put_mk, keep_mk, keepL, Value.oneCell', cond_true, Nat.reduceEqDiff, ↓reduceIte, reduceCtorEq, finW_r, resL, resOne, ↓br_tt]
theorem noFrontier_spec (hu : u.le w) (h : NoLog u lp) : Spec Tryz.prog f_oplog_Log_Frontier [lp] PH.no w fun rs _ => rs = [.s (.int .i64 0)] := by
  refine spec_val k_oplog_Log_Frontier (Qf := fun rs => rs = [.s (.int .i64 0)]) [.g (.s lp)] (by simp) (by simp [AV.ok, GV.ok, h.one]) ?_
  simp (maxSteps := 2000000) only [c_oplog_Log_Frontier, vc_seq, vc_rg, thenQ_n, kKeep_eq, segs_nil, segs_n, ops_nil, ops_cons, vcOp, ev, look, put_mk, keep_mk, keepL, Value.oneCell', cond_true, ↓reduceIte, reduceCtorEq, initF, initP]
  refine call_none hu h rfl rfl ?_
  simp (maxSteps := 2000000) only [vc_ret, vc_seq, vc_rg, vc_ite, thenQ_n, thenQ_r, kKeep_eq, segs_nil, segs_n, ops_nil, ops_cons, vcOp, ev, look, put_mk, keep_mk, keepL, Value.oneCell', cond_true, ↓reduceIte, reduceCtorEq, finW_r, resL, resOne, ↓br_tt]
theorem noLen_spec (hu : u.le w) (h : NoLog u lp) : Spec Tryz.prog f_oplog_Log_Len [lp] PH.no w fun rs _ => rs = [.s (.int .i64 0)] := by
  refine spec_val k_oplog_Log_Len (Qf := fun rs => rs = [.s (.int .i64 0)]) [.g (.s lp)] (by simp) (by simp [AV.ok, GV.ok, h.one]) ?_
  simp (maxSteps := 2000000) only [c_oplog_Log_Len, vc_seq, vc_rg, thenQ_n, kKeep_eq, segs_nil, segs_n, ops_nil, ops_cons, vcOp, ev, look, put_mk, keep_mk, keepL, Value.oneCell', cond_true, ↓reduceIte, reduceCtorEq, initF, initP]
  refine call_none hu h rfl rfl ?_
  simp (maxSteps := 2000000) only [vc_ret, vc_seq, vc_rg, vc_ite, thenQ_n, thenQ_r, kKeep_eq, segs_nil, segs_n, ops_nil, ops_cons, vcOp, ev, look, put_mk, keep_mk, keepL, Value.oneCell', cond_true, ↓reduceIte, reduceCtorEq, finW_r, resL, resOne, ↓br_tt]
theorem noRedone_spec (hu : u.le w) (h : NoLog u lp) : Spec Tryz.prog f_oplog_Log_Redone [lp] PH.no w fun rs _ => rs = [.s (.int .i64 0)] := by
  refine spec_val k_oplog_Log_Redone (Qf := fun rs => rs = [.s (.int .i64 0)]) [.g (.s lp)] (by simp) (by simp [AV.ok, GV.ok, h.one]) ?_
  simp (maxSteps := 2000000) only [c_oplog_Log_Redone, vc_seq, vc_rg, thenQ_n, kKeep_eq, segs_nil, segs_n, ops_nil, ops_cons, vcOp, ev, look, put_mk, keep_mk, keepL, Value.oneCell', cond_true, ↓reduceIte, reduceCtorEq, initF, initP]
  refine call_none hu h rfl rfl ?_
  simp (maxSteps := 2000000) only [vc_ret, vc_seq, vc_rg, vc_ite, thenQ_n, thenQ_r, kKeep_eq, segs_nil, segs_n, ops_nil, ops_cons, vcOp, ev, look, put_mk, keep_mk, keepL, Value.oneCell', cond_true, ↓reduceIte, reduceCtorEq, finW_r, resL, resOne, ↓br_tt]
theorem noTree_spec (hu : u.le w) (h : NoLog u lp) : Spec Tryz.prog f_oplog_Log_Tree [lp] PH.no w fun rs _ => rs = [.s (.pointer none)] := by
  refine spec_val k_oplog_Log_Tree (Qf := fun rs => rs = [.s (.pointer none)]) [.g (.s lp)] (by simp) (by simp [AV.ok, GV.ok, h.one]) ?_
  simp (maxSteps := 2000000) only [c_oplog_Log_Tree, vc_seq, vc_rg, thenQ_n, kKeep_eq, segs_nil, segs_n, ops_nil, ops_cons, vcOp, ev, look, put_mk, keep_mk, keepL, Value.oneCell', cond_true, ↓reduceIte, reduceCtorEq, initF, initP]
  refine call_none hu h rfl rfl ?_
  simp (maxSteps := 2000000) only [vc_ret, vc_seq, vc_rg, vc_ite, thenQ_n, thenQ_r, kKeep_eq, segs_nil, segs_n, ops_nil, ops_cons, vcOp, ev, look, put_mk, keep_mk, keepL, Value.oneCell', cond_true, ↓reduceIte, reduceCtorEq, finW_r, resL, resOne, ↓br_tt]
theorem noBase_spec (hu : u.le w) (h : NoLog u lp) : Spec Tryz.prog f_oplog_Log_Base [lp] PH.no w fun rs _ => rs = [.s (.slice none 0 0)] := by
  refine spec_val k_oplog_Log_Base (Qf := fun rs => rs = [.s (.slice none 0 0)]) [.g (.s lp)] (by simp) (by simp [AV.ok, GV.ok, h.one]) ?_
  simp (maxSteps := 2000000) only [c_oplog_Log_Base, vc_seq, vc_rg, thenQ_n, kKeep_eq, segs_nil, segs_n, ops_nil, ops_cons, vcOp, ev, look, put_mk, keep_mk, keepL, Value.oneCell', cond_true, ↓reduceIte, reduceCtorEq, initF, initP]
  refine call_none hu h rfl rfl ?_
  simp (maxSteps := 2000000) only [vc_ret, vc_seq, vc_rg, vc_ite, thenQ_n, thenQ_r, kKeep_eq, segs_nil, segs_n, ops_nil, ops_cons, vcOp, ev, look, put_mk, keep_mk, keepL, Value.oneCell', cond_true, ↓reduceIte, reduceCtorEq, finW_r, resL, resOne, ↓br_tt]
theorem noClone_spec (hu : u.le w) (h : NoLog u lp) : Spec Tryz.prog f_oplog_Log_Clone [lp] PH.no w fun rs _ => rs = [.s (.pointer none)] := by
  refine spec_val k_oplog_Log_Clone (Qf := fun rs => rs = [.s (.pointer none)]) [.g (.s lp)] (by simp) (by simp [AV.ok, GV.ok, h.one]) ?_
  simp (maxSteps := 2000000) only [c_oplog_Log_Clone, vc_seq, vc_rg, thenQ_n, kKeep_eq, segs_nil, segs_n, ops_nil, ops_cons, vcOp, ev, look, put_mk, keep_mk, keepL, Value.oneCell', cond_true, ↓reduceIte, reduceCtorEq, initF, initP]
  refine call_none hu h rfl rfl ?_
  simp (maxSteps := 2000000) only [vc_ret, vc_seq, vc_rg, vc_ite, thenQ_n, thenQ_r, kKeep_eq, segs_nil, segs_n, ops_nil, ops_cons, vcOp, ev, look, put_mk, keep_mk, keepL, Value.oneCell', cond_true, ↓reduceIte, reduceCtorEq, finW_r, resL, resOne, ↓br_tt]
theorem noOps_spec (hu : u.le w) (h : NoLog u lp) : Spec Tryz.prog f_oplog_Log_Ops [lp] PH.no w fun rs m' => ∃ bo e, rs = [.s (.func (.func f_oplog_Log_Ops_1) #[] #[ptr bo])] ∧ m' bo = some (.cells #[.slice none 0 0] e (0, 0)) := by
  refine spec_of k_oplog_Log_Ops [.g (.s lp)] (by simp) (by simp [AV.ok, GV.ok, h.one]) ?_
  simp (maxSteps := 2000000) only [c_oplog_Log_Ops, vc_seq, vc_rg, thenQ_n, kKeep_eq, segs_nil, segs_n, ops_nil, ops_cons, vcOp, ev, look, updL, put_mk, keep_mk, keepL, Value.oneCell', cond_true, ↓reduceIte, reduceCtorEq, Bool.true_and, true_and, initF, initP, ptr]
  refine call_none hu h rfl rfl ?_
  simp (maxSteps := 2000000) only [vc_skip, vc_seq, vc_rg, vc_ite, thenQ_n, kKeep_eq, segs_nil, segs_n, ops_nil, ops_cons, vcOp, ev, look, put_mk, keep_mk, keepL, unV, Nat.reduceEqDiff, ↓reduceIte, reduceCtorEq, Bool.not_true, ↓br_ft]
  refine gh_pubBox 3 3 rfl rfl fun v u2 hv hp hd => ?_
  obtain ⟨hok, bo, e, rfl, rfl⟩ := hp
  simp (maxSteps := 2000000) only [dropK, vc_ret, thenQ_n, kKeep_eq, finQ_r, segs_nil, ops_nil, ops_cons, vcOp, ev, evL, scL, look, put_mk, keep_mk, keepL, cond_true, cond_false, ↓reduceIte, BEq.rfl, Option.map_some, kill, SV.mentions]
  exact fin_m (rs := [.s (.func (.func f_oplog_Log_Ops_1) #[] #[ptr bo])]) _ rfl (fun _ _ h => h) ⟨bo, e, rfl, by simp [uni, one, GV.flat]⟩
end
end Go.Proofs.YtmjiojflncffeaaGreat.Vc

/- A variable that was handed out is one's own again. -/
set_option linter.unusedVariables false
set_option linter.unusedSimpArgs false
namespace Go.Proofs.YtmjiojflncffeaaGreat.Vc
open Go Go.Shelf
section
variable {C : Ctx} {σ : SS} {a : Act} {w : World} {K : KT}
end
end Go.Proofs.YtmjiojflncffeaaGreat.Vc

/- OplogNone, the walk. -/
set_option linter.unusedVariables false
set_option linter.unusedSimpArgs false
set_option maxRecDepth 100000
namespace Go.Proofs.YtmjiojflncffeaaGreat.Vc
open Go Go.Proofs Go.Shelf

theorem seen_c0 {C : Ctx} {ph : List PH} {m u : PH} (hk : KN C.u0 (m :: ph) u) {b : Nat} {cs : Array Value} {e : TypeId} {fz : Nat × Nat} (h : u b = some (.cells cs e fz)) {j : Nat} {v : Value} (hj : cs[j]? = some v) (hv : v.oneCell' = true) : Seen C ph m b j (.s v) :=
  seen_of hk h hv fun i w hi => by
    cases i with
    | zero =>
      obtain rfl : v = w := by simpa [GV.flat] using hi
      simpa using hj
    | succ i => simp [GV.flat] at hi
theorem avs_two {u : PH} {a b : Value} (ha : a.oneCell' = true) (hb : b.oneCell' = true) : ∀ x ∈ [AV.g (.s a), .g (.s b)], x.ok u := by
  intro x hx
  simp only [List.mem_cons, List.not_mem_nil, or_false] at hx
  rcases hx with rfl | rfl
  · exact ha
  · exact hb
theorem ops1_none {w : World} {u : PH} (hu : u.le w) {b : Nat} {e : TypeId} (h : u b = some (.cells #[.slice none 0 0] e (0, 0))) (yv : Value) (hy : yv.oneCell' = true) : Spec Tryz.prog f_oplog_Log_Ops_1 [yv, ptr b] PH.no w fun rs _ => rs = [] := by
  refine spec_val k_oplog_Log_Ops_1 (Qf := fun rs => rs = []) [.g (.s yv), .g (.s (ptr b))] (by simp) (avs_two hy rfl) ?_
  have hk : ∀ {l : List PH}, KN (⟨Tryz.prog, 19, w, PH.no⟩ : Ctx).u0 l u := kn_u hu
  unfold ptr
  simp (maxSteps := 2000000) only [c_oplog_Log_Ops_1, vc_seq, vc_rg, segs_n, ops_cons, vcOp, ev, look, ↓reduceIte, reduceCtorEq, Nat.zero_add, initF, initP]
  refine ld_of (.s (.slice none 0 0)) (seen_c0 hk h (j := 0) (v := .slice none 0 0) rfl rfl) rfl ?_
  simp (maxSteps := 2000000) only [vc_block, thenQ_n, kKeep_eq, segs_nil, ops_nil, ops_cons, vcOp, ev, look, put_mk, keep_mk, keepL, Value.oneCell', cond_true, Nat.reduceEqDiff, ↓reduceIte, reduceCtorEq]
  refine vc_loop (ι := Unit) (fun _ => ⟨[(0, .g (.s (yv))), (5, .g (.s (.slice none 0 0))), (6, .g (.s (.int .i64 ((0 : Nat))))), (7, .g (.s (.int .i64 (0))))], [], [], PH.no⟩) (fun _ => True) (fun _ => 0) () trivial (ge_of ?_ ?_ rfl rfl rfl) ?_
  · simp [frIn, look]
  · simp [pvIn, look]
  intro _ _
  simp (maxSteps := 2000000) only [c_oplog_Log_Ops_1_L0, vc_skip, vc_exit, vc_seq, vc_block, vc_rg, vc_ite, thenQ_n, thenQ_e, blockQ_e, kKeep_eq, loopQ_e, segs_nil, segs_n, ops_nil, ops_cons, vcOp, ev, look, put_mk, keep_mk, keepL, binV, binC, Nat.reduceEqDiff, ↓reduceIte, reduceCtorEq, Bool.true_and, true_and, finW_n, resL, decide_eq_true_eq, decide_eq_false_iff_not, br_t, gStamp_zero, gOp_zero, gPlace_zero, gUndo_zero, gDone_zero]
  exact ⟨fun h => by omega, fun _ => trivial⟩
theorem none13_spec (w : World) (op : Op) : Spec Tryz.prog f_law13_OplogNone [(gOp op).val] PH.no w fun rs _ => rs = [.s (.bool true)] := by
  refine spec_of k_law13_OplogNone [.g (gOp op)] (by simp) (by simp [AV.ok, gOp_ok]) ?_
  simp (maxSteps := 2000000) only [c_law13_OplogNone, vc_seq, vc_rg, thenQ_n, kKeep_eq, segs_nil, segs_n, ops_nil, ops_cons, vcOp, ev, look, updL, keep_mk, keepL, Nat.reduceEqDiff, ↓reduceIte, Bool.true_and, true_and, initF, initP]
  refine call_ism _ [.s (.bool true)] rfl rfl (fun w' vs hv _ _ hm => ?_) ?_
  · obtain rfl := argsV_nil hv
    exact live13_spec w'
  simp (maxSteps := 2000000) only [retS, vc_skip, vc_seq, vc_rg, vc_ite, thenQ_n, kKeep_eq, segs_nil, segs_n, ops_nil, ops_cons, vcOp, ev, evL, gvL, look, updL, put_mk, keep_mk, keepL, unV, Nat.reduceEqDiff, ↓reduceIte, Bool.true_and, Bool.not_true, true_and, List.map_nil, ↓br_ft, GV.bldT, GV.bldC]
  refine gh_seq (gh_pubBox 12 12 rfl rfl fun v12 u12 _ hp12 hd12 => ?_)
  refine gh_frz rfl hd12 ?_
  obtain ⟨_, b12, e12, rfl, rfl⟩ := hp12
  generalize hu12 : one b12 _ = u12
  have hb0 : NoLog u12 (ptr b12) := .inr ⟨b12, e12, rfl, by rw [← hu12, one_self]; rfl⟩
  simp (maxSteps := 2000000) only [dropK, vc_block, thenQ_n, kKeep_eq, segs_nil, ops_nil, ops_cons, vcOp, ev, evL, gvL, look, updL, put_mk, keep_mk, keepL, GV.sz, Value.oneCell', cond_true, cond_false, Nat.reduceEqDiff, Nat.reduceAdd, Nat.reduceBEq, ↓reduceIte, Nat.zero_add, Bool.and_true, Bool.true_and, BEq.rfl, true_and, and_true, Option.map_some, szAll, List.length_cons, List.length_nil, Int.reduceAdd, kill, SV.mentions]
  refine vc_loop (ι := Nat × List PH) (fun q => ⟨[(1, .ref 1 []), (2, .ref 2 []), (13, .row 13 0 (2)), (14, .g (.s (.int .i64 ((2 : Nat) : Int)))), (15, .g (.s (.int .i64 (q.1))))], [(1, .box (gOp op)), (2, .box (.s (.bool false))), (13, .row 27 1 (.s (.pointer none)) [.s (.pointer none), .s (.pointer (some ⟨b12, 0, none⟩))])], q.2 ++ [u12], PH.no⟩) (fun q => q.1 ≤ 2) (fun q => 2 - q.1) (0, []) (by simp) (ge_of ?_ ?_ rfl rfl rfl) ?_
  · simp [frIn, look]
  · simp [pvIn, look]
  rintro ⟨i, phs⟩ hi
  simp only at hi
  generalize hQ : loopQ _ _ _ _ _ = Q
  simp (maxSteps := 2000000) only [c_law13_OplogNone_L0, vc_skip, vc_exit, vc_seq, vc_block, vc_rg, vc_ite, thenQ_n, thenQ_e, kKeep_eq, segs_nil, segs_n, ops_nil, ops_cons, vcOp, ev, evL, gvL, look, updL, put_mk, keep_mk, keepL, rowE, rowD, binV, binC, Nat.reduceEqDiff, ↓reduceIte, Nat.zero_add, Bool.and_true, Bool.true_and, true_and, and_true, Option.map_some, szAll, List.length_cons, List.length_nil, Int.toNat_natCast, decide_eq_true_eq, decide_eq_false_iff_not, br_t, getT_nil, gStamp_zero, gOp_sz, gOp_fits, gOp_zero]
  refine ⟨fun hlt => ⟨⟨by omega, by omega⟩, ?_⟩, fun hge => ?_⟩
  · obtain ⟨v, hv0, hn⟩ : ∃ v, ([GV.s (.pointer none), .s (.pointer (some ⟨b12, 0, none⟩))] : List GV).getD i (.s (.pointer none)) = .s v ∧ NoLog u12 v := by
      rcases (show i = 0 ∨ i = 1 by omega) with rfl | rfl
      · exact ⟨_, rfl, .inl rfl⟩
      · exact ⟨_, rfl, hb0⟩
    rw [hv0]
    refine ⟨rfl, ?_⟩
    refine call_ism _ [.s (.int .i64 0), .s (.int .i64 2)] rfl rfl (fun w' vs hv _ hph _ => ?_) ?_
    · obtain ⟨vs, rfl, _, hv⟩ := argsV_g hv
      obtain ⟨v', vs, rfl, hs, hv⟩ := argsV_row (z := 8) (xs := [gOp op]) rfl rfl hv
      obtain rfl := argsV_nil hv
      exact noAdd_spec (fun b o h => hph u12 (by simp) b o h) hn v' [op] hs
    simp (maxSteps := 2000000) only [retS, List.getElem?_cons_zero, List.getElem?_cons_succ, vc_seq, vc_rg, thenQ_n, kKeep_eq, segs_nil, segs_n, ops_nil, ops_cons, vcOp, ev, look, put_mk, keep_mk, keepL, Nat.reduceEqDiff, ↓reduceIte, Bool.true_and, true_and, getT_nil, gOp_fits]
    refine call_ism _ [.s (.bool false), .s (.int .i64 2)] rfl rfl (fun w' vs hv _ hph _ => ?_) ?_
    · obtain ⟨vs, rfl, _, hv⟩ := argsV_g hv
      obtain ⟨vs, rfl, _, hv⟩ := argsV_g hv
      obtain rfl := argsV_nil hv
      exact noWould_spec (fun b o h => hph u12 (by simp) b o h) hn op
    simp (maxSteps := 2000000) only [retS, List.getElem?_cons_zero, List.getElem?_cons_succ, vc_ret, vc_seq, vc_rg, vc_ite, thenQ_n, thenQ_r, blockQ_r, kKeep_eq, segs_nil, segs_n, segs_g, ops_nil, ops_cons, vcOp, RO.isGh, skip_mk, skipL, ev, look, updL, put_mk, put_mk0, keep_mk, keepL, binV, binC, GV.getT, GV.sz, GV.same, GV.setT, Value.oneCell', cond_true, cond_false, Nat.reduceEqDiff, ↓reduceIte, Bool.and_true, Bool.true_and, Bool.not_false, true_and, and_true, ↓br_tt, ↓br_ff, ↓br_tf, ↓br_ft, br_f]
    refine ⟨fun _ => ?_, fun h => absurd h (by decide)⟩
    refine ⟨fun _ => ?_, fun h => absurd h (by decide)⟩
    refine ⟨fun _ => ?_, fun h => absurd h (by decide)⟩
    refine call_ism _ [.s (.int .i64 2)] rfl rfl (fun w' vs hv _ hph _ => ?_) ?_
    · obtain ⟨vs, rfl, _, hv⟩ := argsV_g hv
      obtain ⟨vs, rfl, _, hv⟩ := argsV_g hv
      obtain rfl := argsV_nil hv
      exact noCut_spec (fun b o h => hph u12 (by simp) b o h) hn 0
    simp (maxSteps := 2000000) only [retS, vc_ret, vc_seq, vc_rg, vc_ite, thenQ_n, thenQ_r, blockQ_r, kKeep_eq, segs_nil, segs_n, segs_g, ops_nil, ops_cons, vcOp, RO.isGh, skip_mk, skipL, ev, look, updL, put_mk, put_mk0, keep_mk, keepL, binV, binC, GV.getT, GV.sz, GV.same, GV.setT, Value.oneCell', cond_true, cond_false, Nat.reduceEqDiff, ↓reduceIte, Bool.and_true, Bool.true_and, Bool.not_false, true_and, and_true, ↓br_tt, ↓br_tf, ↓br_ft, br_f]
    refine ⟨fun _ => ?_, fun h => absurd h (by decide)⟩
    refine call_ism _ [.s (.int .i64 0)] rfl rfl (fun w' vs hv _ hph _ => ?_) ?_
    · obtain ⟨vs, rfl, _, hv⟩ := argsV_g hv
      obtain rfl := argsV_nil hv
      exact noFrontier_spec (fun b o h => hph u12 (by simp) b o h) hn
    simp (maxSteps := 2000000) only [retS, vc_ret, vc_seq, vc_rg, vc_ite, thenQ_n, thenQ_r, blockQ_r, kKeep_eq, segs_nil, segs_n, segs_g, ops_nil, ops_cons, vcOp, RO.isGh, skip_mk, skipL, ev, look, updL, put_mk, put_mk0, keep_mk, keepL, binV, binC, GV.getT, GV.sz, GV.same, GV.setT, Value.oneCell', cond_true, cond_false, Nat.reduceEqDiff, ↓reduceIte, Bool.and_true, Bool.true_and, Bool.not_false, true_and, and_true, ↓br_tt, ↓br_tf, ↓br_ft, br_f]
    refine ⟨fun _ => ?_, fun h => absurd h (by decide)⟩
    refine call_ism _ [.s (.int .i64 0)] rfl rfl (fun w' vs hv _ hph _ => ?_) ?_
    · obtain ⟨vs, rfl, _, hv⟩ := argsV_g hv
      obtain rfl := argsV_nil hv
      exact noLen_spec (fun b o h => hph u12 (by simp) b o h) hn
    simp (maxSteps := 2000000) only [retS, vc_ret, vc_seq, vc_rg, vc_ite, thenQ_n, thenQ_r, blockQ_r, kKeep_eq, segs_nil, segs_n, segs_g, ops_nil, ops_cons, vcOp, RO.isGh, skip_mk, skipL, ev, look, updL, put_mk, put_mk0, keep_mk, keepL, binV, binC, GV.getT, GV.sz, GV.same, GV.setT, Value.oneCell', cond_true, cond_false, Nat.reduceEqDiff, ↓reduceIte, Bool.and_true, Bool.true_and, Bool.not_false, true_and, and_true, ↓br_tt, ↓br_tf, ↓br_ft, br_f]
    refine ⟨fun _ => ?_, fun h => absurd h (by decide)⟩
    refine call_ism _ [.s (.pointer none)] rfl rfl (fun w' vs hv _ hph _ => ?_) ?_
    · obtain ⟨vs, rfl, _, hv⟩ := argsV_g hv
      obtain rfl := argsV_nil hv
      exact noTree_spec (fun b o h => hph u12 (by simp) b o h) hn
    simp (maxSteps := 2000000) only [retS, ops_cons, vcOp, ev, look, put_mk, Value.oneCell', cond_true, ↓reduceIte]
    refine eq_of eqTreeNil ?_
    simp (maxSteps := 2000000) only [segs_n, segs_g, ops_nil, ops_cons, vcOp, ev, look, put_mk, Value.oneCell', cond_true, Nat.reduceEqDiff, ↓reduceIte, Bool.not_true, ↓br_ff, ↓br_ft, Bool.bne_true]
    refine call_ism _ [.s (.slice none 0 0)] rfl rfl (fun w' vs hv _ hph _ => ?_) ?_
    · obtain ⟨vs, rfl, _, hv⟩ := argsV_g hv
      obtain rfl := argsV_nil hv
      exact noBase_spec (fun b o h => hph u12 (by simp) b o h) hn
    simp (maxSteps := 2000000) only [retS, vc_ret, vc_seq, vc_rg, vc_ite, thenQ_n, thenQ_r, blockQ_r, kKeep_eq, segs_nil, segs_n, segs_g, ops_nil, ops_cons, vcOp, RO.isGh, skip_mk, skipL, ev, look, updL, put_mk, put_mk0, keep_mk, keepL, binV, binC, GV.getT, GV.sz, GV.same, GV.setT, Value.oneCell', cond_true, cond_false, Nat.reduceEqDiff, ↓reduceIte, Bool.and_true, Bool.true_and, Bool.not_false, true_and, and_true, ↓br_tt, ↓br_tf, ↓br_ft, br_f]
    refine ⟨fun _ => ?_, fun h => absurd h (by decide)⟩
    refine call_ism _ [.s (.int .i64 0)] rfl rfl (fun w' vs hv _ hph _ => ?_) ?_
    · obtain ⟨vs, rfl, _, hv⟩ := argsV_g hv
      obtain rfl := argsV_nil hv
      exact noRedone_spec (fun b o h => hph u12 (by simp) b o h) hn
    simp (maxSteps := 2000000) only [retS, vc_ret, vc_seq, vc_rg, vc_ite, thenQ_n, thenQ_r, blockQ_r, kKeep_eq, segs_nil, segs_n, segs_g, ops_nil, ops_cons, vcOp, RO.isGh, skip_mk, skipL, ev, look, updL, put_mk, put_mk0, keep_mk, keepL, binV, binC, GV.getT, GV.sz, GV.same, GV.setT, Value.oneCell', cond_true, cond_false, Nat.reduceEqDiff, ↓reduceIte, Bool.and_true, Bool.true_and, Bool.not_false, true_and, and_true, ↓br_tt, ↓br_ft, br_f]
    refine ⟨fun _ => ?_, fun h => absurd h (by decide)⟩
    refine call_ism _ [.s (.pointer none)] rfl rfl (fun w' vs hv _ hph _ => ?_) ?_
    · obtain ⟨vs, rfl, _, hv⟩ := argsV_g hv
      obtain rfl := argsV_nil hv
      exact noClone_spec (fun b o h => hph u12 (by simp) b o h) hn
    simp (maxSteps := 2000000) only [retS, ops_cons, vcOp, ev, look, put_mk, Value.oneCell', cond_true, ↓reduceIte]
    refine eq_of eqLogNil ?_
    simp (maxSteps := 2000000) only [vc_skip, vc_seq, vc_rg, vc_ite, thenQ_n, kKeep_eq, segs_nil, segs_n, ops_nil, ops_cons, vcOp, ev, look, put_mk, keep_mk, keepL, Value.oneCell', cond_true, Nat.reduceEqDiff, ↓reduceIte, Bool.not_true, ↓br_ft, Bool.bne_true]
    refine call_frzm rfl rfl (Q := fun rs m' => ∃ bo e, rs = [.s (.func (.func f_oplog_Log_Ops_1) #[] #[ptr bo])] ∧ m' bo = some (.cells #[.slice none 0 0] e (0, 0))) (fun w' vs hv _ hph _ => ?_) fun rs mW _ hq => ?_
    · obtain ⟨vs, rfl, _, hv⟩ := argsV_g hv
      obtain rfl := argsV_nil hv
      exact noOps_spec (fun b o h => hph u12 (by simp) b o h) hn
    obtain ⟨bw, ew, rfl, hbw⟩ := hq
    simp (maxSteps := 2000000) only [retS, vc_block, thenQ_n, kKeep_eq, segs_nil, ops_nil, look, put_mk, keep_mk, keepL, Nat.reduceEqDiff, ↓reduceIte, ptr]
    refine raw_never (t := 82) (gf := f_oplog_Log_Ops_1) (lb := [ptr bw]) (by kernel_rfl) rfl (enters_of Tryz.func61 (by kernel_rfl) rfl) (fun l w' _ hph _ => ops1_none (hph mW (by simp)) hbw _ rfl) fun u => ?_
    simp (maxSteps := 2000000) only [vc_rg, thenQ_n, blockQ_n, kKeep_eq, segs_nil, segs_n, ops_nil, ops_cons, vcOp, ev, look, put_mk, keep_mk, keepL, binV, binC, Value.oneCell', cond_true, Nat.reduceEqDiff, ↓reduceIte, Bool.true_and, true_and]
    subst hQ; simp only [loopQ_n]; refine ⟨(i + 1, u :: mW :: phs), ?_, ?_, ge_of ?_ ?_ rfl rfl rfl⟩
    · simp only; omega
    · simp only; omega
    · simp only [frIn, look, Nat.reduceEqDiff, ↓reduceIte, Bool.and_true, Bool.true_and, true_and, and_true]
      rw [wrap_n (by omega)]
      try simp
    · simp [pvIn, look]
  · subst hQ
    simp (maxSteps := 2000000) only [vc_ret, vc_seq, vc_rg, thenQ_n, blockQ_e, kKeep_eq, loopQ_e, finQ_r, segs_nil, segs_n, ops_nil, ops_cons, vcOp, ev, look, updL, put_mk0, keep_mk, keepL, GV.getT, GV.sz, GV.same, GV.setT, Value.oneCell', cond_true, Nat.reduceEqDiff, ↓reduceIte, Bool.and_true, Bool.true_and, true_and, and_true]
    exact fin_g (rs := [.s (.bool true)]) rfl rfl
end Go.Proofs.YtmjiojflncffeaaGreat.Vc

/- OplogNone: for every input the law answers true and leaves its argument as it was. No condition. -/
set_option linter.unusedVariables false
set_option linter.unusedSimpArgs false
set_option maxRecDepth 100000
namespace Go.Proofs.YtmjiojflncffeaaGreat.Vc
open Go Go.Proofs Go.Proofs.YtmjiojflncffeaaGreat Go.ChangeShapes Go.WideShapes Go.ChangeAt

theorem OplogNone_open {H : Type} (enc : TypeId × Value → H) (W : World) (base : Nat) (vs : List Value) (h : RdVs enc Tryz.prog W base [26] vs) (_ : W.ShapedOpen Tryz.prog) : Spec Tryz.prog f_law13_OplogNone vs PH.no W fun rs _ => rs = [.s (.bool true)] := by
  obtain ⟨v, vs, rfl, h1, h2, h⟩ := rdvs_cons h
  obtain rfl := rdvs_nil h
  obtain ⟨q, rfl, _⟩ := rdv_agg (n0 := 9) (ks := kOp) (g := fun q => gOp (Op.ofRaw q 0)) (by kernel_rfl) (by kernel_rfl) (fun q => gOp_flat q 0) (fun q v e => by cases e) h1 h2
  exact none13_spec W _

theorem OplogNone_lifted (os : Os) (started : os.Started) (H : Type) (enc : TypeId × Value → H) :
    ReturnsInHanded {} Tryz.checked os f_law13_OplogNone .any (Rows.oplogNoneSpec.pre6 enc Tryz.prog Tryz.f10 Rows.oplogNoneRow.domain false) (Rows.oplogNoneSpec.post enc Tryz.prog Tryz.f10 false true false false) :=
  law_lifted (C := Tryz.checked) Try_own Try_laidOut started (by kernel_rfl) Tryz.func10
    (ChangeSpec.witness6 (enc := enc) (C := Tryz.checked) false ⟨#[], #[(gOp zOp).val], []⟩ 12 (by kernel_rfl) (by kernel_rfl) (by kernel_rfl) (by kernel_rfl))
    (by kernel_rfl) rfl (tb := 4) (by kernel_rfl) (by kernel_rfl) (ts := [26]) (by kernel_rfl) (fun ds h => by match ds, h with | [d0], _ => rfl) (OplogNone_open enc)

theorem OplogNone_holds : Rows.OplogNoneSaid :=
  OpenClaim.holds_of_wide f_law13_OplogNone Tryz.f10 rfl rfl rfl rfl rfl rfl rfl ⟨rfl, rfl, rfl, rfl, rfl⟩ rfl rfl rfl rfl rfl (by kernel_rfl) Tryz.func10 (by kernel_rfl)
    (of_decide_eq_true (by kernel_rfl)) (by unfold Func.isWrapper; rw [if_neg (by decide +kernel)]; exact ⟨rfl, rfl⟩)
    (fun os started H enc _ => OplogNone_lifted os started H enc)
#print axioms OplogNone_holds
end Go.Proofs.YtmjiojflncffeaaGreat.Vc

