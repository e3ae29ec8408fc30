/- Part 5 of what a law of this seat rests on. -/
import Derived.Test.YtdpknchgoeboaaaGreatProg
import Derived.Lib.Walk
import Derived.Lib.Small
import Derived.StillTailTactics
import Derived.Shelf.SlSortCmp.InsertionK
import Derived.Shelf.SlLaysF0
import Derived.Ground.SlsfProg
import Derived.Shelf.SlSortCmp.WholeK
import Derived.Shelf.SlSortCmp.NoneTotal
import Derived.Test.YtdpknchgoeboaaaGreatZTw34
/- The document's tree: begun; a node put into it. -/
set_option linter.unusedVariables false
set_option linter.unusedSimpArgs false
set_option maxRecDepth 100000
namespace Go.Proofs.YtdpknchgoeboaaaGreat.Vc
open Go Go.Proofs

theorem SlO.stored {u : PH} {b o n c : Nat} {e : TypeId} {z : Nat} {xs : List GV} (h : SlO u (.slice (some ⟨b, o, none⟩) n c) e z xs) {i : Nat} (hi : i < xs.length) {y : GV} (hy : y.ok) (hz : y.sz = z) :
    ∃ cs, u b = some (.cells cs e (0, 0)) ∧ o + i * z + z ≤ cs.size ∧ SlO (u.upd b (.cells (writeAt cs (o + i * z) y.flat) e (0, 0))) (.slice (some ⟨b, o, none⟩) n c) e z (xs.set i y) := by
  obtain ⟨hels, ⟨h1, rfl⟩ | ⟨a, c', h1, h2, h3⟩⟩ := h
  · simp at hi
  · simp only [Value.slice.injEq, Option.some.injEq] at h1
    obtain ⟨rfl, rfl, rfl⟩ := h1
    obtain ⟨cs, g1, g2, g3, g4⟩ := h3 (by omega)
    simp only at g2 g3 g4
    have hfl : y.flat.length = z := by rw [GV.flat_len y hy, hz]
    have hsz : o + i * z + z ≤ cs.size := by
      have h5 : (i + 1) * z ≤ c * z := Nat.mul_le_mul_right z (by omega)
      rw [Nat.succ_mul] at h5
      omega
    refine ⟨cs, g3, hsz, hels.set hy hz, .inr ⟨⟨b, o, none⟩, c, by rw [List.length_set], by rw [List.length_set]; exact h2, fun hc => ⟨writeAt cs (o + i * z) y.flat, rfl, by rw [writeAt_size]; exact g2, upd_self _ _ _, fun j v hj => ?_⟩⟩⟩
    have hx : xs[i]? = some xs[i] := List.getElem?_eq_getElem hi
    have := flats_set hels hx hz hy j v hj
    rw [writeAt_get _ _ _ _ (by rw [hfl]; exact hsz), hfl]
    simp only at this ⊢
    split at this
    · rename_i hb
      rw [if_pos (by omega), show o + j - (o + i * z) = j - i * z by omega]
      exact this
    · rename_i hb
      rw [if_neg (by omega)]
      exact g4 j v this
theorem SlR.cut {u : PH} {b o n c : Nat} {z : Nat} {xs : List GV} (h : SlR u (.slice (some ⟨b, o, none⟩) n c) z xs) {lo hi : Nat} (h1 : lo ≤ hi) (h2 : hi ≤ n) : SlR u (.slice (some ⟨b, if c = lo then o else o + lo * z, none⟩) (hi - lo) (c - lo)) z ((xs.drop lo).take (hi - lo)) := by
  obtain ⟨hels, ⟨h3, rfl⟩ | ⟨a, c', h3, h4, h5⟩⟩ := h
  · simp at h3
  · simp only [Value.slice.injEq, Option.some.injEq] at h3
    obtain ⟨rfl, rfl, rfl⟩ := h3
    refine ⟨hels.part _ _, .inr ⟨⟨b, if c = lo then o else o + lo * z, none⟩, c - lo, by rw [List.length_take, List.length_drop]; congr 1; omega, by rw [List.length_take, List.length_drop]; omega, fun hc => ?_⟩⟩
    obtain ⟨cs, e, fz, g1, g2, g3⟩ := h5 (by omega)
    simp only at g2 g3 ⊢
    rw [if_neg (by omega)]
    refine ⟨cs, e, fz, trivial, g2, fun j v hj => ?_⟩
    rw [Nat.add_assoc]
    exact g3 _ _ (flats_part hels (by omega) j v hj)

def T0L : List TN := [⟨1, 0, ⟨#[]⟩, []⟩, ⟨2, 0, ⟨#[]⟩, []⟩]
theorem SlR.nil (u : PH) (z : Nat) : SlR u (.slice none 0 0) z [] := ⟨fun x hx => by simp at hx, .inl ⟨rfl, rfl⟩⟩
theorem SlO.nil (u : PH) (e : TypeId) (z : Nat) : SlO u (.slice none 0 0) e z [] := ⟨fun x hx => by simp at hx, .inl ⟨rfl, rfl⟩⟩
theorem rNew_spec (w : World) (A : PH) : Spec Tryz.prog f_ref12_New [] PH.no w fun rs m' => ∃ b, rs = [.s (ptr b)] ∧ RM A m' b T0L [] := by
  refine spec_of k_ref12_New [] (by simp) (by simp [AV.ok]) ?_
  simp (maxSteps := 2000000) only [c_ref12_New, vc_seq, vc_rg, thenQ_n, kKeep_eq, segs_nil, segs_n, ops_nil, ops_cons, vcOp, ev, evL, gvL, look, updL, put_mk, keep_mk, keepL, GV.getT, Value.oneCell', cond_true, Nat.reduceEqDiff, Nat.reduceAdd, ↓reduceIte, Nat.zero_add, Bool.and_true, Bool.true_and, true_and, and_true, initF, initP, List.map_cons, List.map_nil, Option.map_some, szAll, List.length_cons, List.length_nil, Int.reduceAdd, GV.bldT, GV.bldC, same_int, gTreeNode_sz, gTreeNode_get0, gTreeNode_set0, gTreeNode_zero, ptr]
  refine ⟨rfl, rfl, ?_⟩
  refine gh_pub 3 3 2 rfl rfl rfl fun v u hv hs hd => ?_
  simp (maxSteps := 2000000) only [dropK, ops_cons, vcOp, ev, evL, gvL, look, updL, put_mk, GV.getT, GV.same, GV.setT, cond_true, cond_false, ↓reduceIte, Bool.and_true, Bool.true_and, BEq.rfl, true_and, and_true, List.map_cons, List.map_nil, Option.map_some, kill, SV.mentions, GV.bldT, GV.bldC]
  refine ⟨rfl, ?_⟩
  refine gh_pubBox 5 5 rfl rfl fun v2 u2 hv2 hp hd2 => ?_
  obtain ⟨hok, b, e, rfl, rfl⟩ := hp
  simp (maxSteps := 2000000) only [vc_ret, thenQ_n, kKeep_eq, finQ_r, segs_nil, ops_nil, ops_cons, vcOp, ev, look, put_mk, keep_mk, keepL, cond_true, cond_false, ↓reduceIte, BEq.rfl, kill, SV.mentions]
  rw [uni_no_r] at hd2 ⊢
  refine fin_m _ rfl (fun _ _ h => h) ⟨b, rfl, v, .slice none 0 0, e, u, PH.no, PH.no, [⟨1, 0, ⟨#[]⟩, .slice none 0 0⟩, ⟨2, 0, ⟨#[]⟩, .slice none 0 0⟩], [], ?_, ⟨?_, dis_no_r _, dis_no _, hs, ⟨⟨rfl, rfl, rfl, SlR.nil _ _⟩, ⟨rfl, rfl, rfl, SlR.nil _ _⟩, trivial⟩, by simp [T0L], SlO.nil _ _ _, rfl⟩⟩
  · rw [uni_no, uni_no_r]; rfl
  · rw [uni_no, uni_no_r]; exact hd2

theorem uni_upd_l (a r : PH) (b : Nat) (o : Obj) : (uni a r).upd b o = uni (a.upd b o) r := by
  funext j
  by_cases h : j = b
  · subst h; simp [PH.upd, uni]
  · simp [PH.upd, uni, h]
theorem dis_upd_l {a r : PH} {b : Nat} {o : Obj} (h : dis a r) (ha : a b ≠ none) : dis (a.upd b o) r := fun j => by
  by_cases e : j = b
  · subst e; exact .inr ((h j).resolve_left ha)
  · rw [upd_ne e]; exact h j
theorem TsOk.set {A : PH} {t : TreeNode} {a : TN} (ht : t.node = a.node ∧ t.parent = a.parent ∧ t.name = a.name ∧ SlR A t.attrs 2 (a.attrs.map gAttr)) : ∀ {ts : List TreeNode} {l : List TN} {i : Nat}, TsOk A ts l → TsOk A (ts.set i t) (l.set i a)
  | [], [], _, _ => trivial
  | _ :: _, _ :: _, 0, h => ⟨ht, h.2⟩
  | _ :: _, _ :: _, i + 1, h => ⟨h.1, h.2.set ht⟩
  | [], _ :: _, _, h => h.elim
  | _ :: _, [], _, h => h.elim
theorem TsOk.ins {A : PH} {t : TreeNode} {a : TN} (ht : t.node = a.node ∧ t.parent = a.parent ∧ t.name = a.name ∧ SlR A t.attrs 2 (a.attrs.map gAttr)) : ∀ {ts : List TreeNode} {l : List TN} (i : Nat), TsOk A ts l → TsOk A (ts.take i ++ t :: ts.drop i) (l.take i ++ a :: l.drop i)
  | [], [], i, _ => by simp; exact ⟨ht, trivial⟩
  | x :: ts, y :: l, 0, h => ⟨ht, h⟩
  | x :: ts, y :: l, i + 1, h => ⟨h.1, h.2.ins ht i⟩
  | [], _ :: _, _, h => h.elim
  | _ :: _, [], _, h => h.elim
/-- A node in its place, in that of one with its number. -/
def putL (l : List TN) (a : TN) : List TN := if isL l a.node = true then l.set (findL l a.node) a else l.take (findL l a.node) ++ a :: l.drop (findL l a.node)

theorem rput_spec (w : World) (A m : PH) (b : Nat) (l : List TN) (ls : List (List TN)) (h : RM A m b l ls) (t : TreeNode) (a : TN) (ht : t.node = a.node ∧ t.parent = a.parent ∧ t.name = a.name ∧ SlR A t.attrs 2 (a.attrs.map gAttr)) (hl : l.length ≤ 1099511627776) :
    Spec Tryz.prog f_ref12_Tree_put [ptr b, (gTreeNode t).val] m w fun rs m' => rs = [] ∧ RM A m' b (putL l a) ls := by
  refine spec_of k_ref12_Tree_put [.g (.s (ptr b)), .g (gTreeNode t)] (by simp) (by simp [AV.ok, GV.ok, Value.oneCell', ptr, gTreeNode_ok t (TnOk_one ht.2.2.2)]) ?_
  simp (maxSteps := 2000000) only [c_ref12_Tree_put, vc_seq, vc_rg, thenQ_n, kKeep_eq, segs_nil, segs_n, ops_nil, ops_cons, vcOp, ev, look, updL, put_mk, keep_mk, keepL, GV.getT, Nat.reduceEqDiff, ↓reduceIte, reduceCtorEq, List.nil_append, Nat.zero_add, Bool.true_and, Bool.not_false, true_and, initF, initP, getT_nil, fits_s, gTreeNode_fld0, gTreeNode_get0, gTreeNode_zero, ptr]
  refine call_ism _ [.s (.int .i64 (findL l t.node)), .s (.bool (isL l t.node))] rfl rfl (fun w' vs hv _ _ hm => ?_) ?_
  · obtain ⟨vs, rfl, _, hv⟩ := argsV_g hv
    obtain ⟨vs, rfl, _, hv⟩ := argsV_g hv
    obtain rfl := argsV_nil hv
    exact find_spec w' A m hm b l ls h t.node (by omega)
  simp (maxSteps := 2000000) only [retS, List.getElem?_cons_zero, List.getElem?_cons_succ, vc_skip, vc_seq, vc_rg, vc_rgq, vc_ite, thenQ_n, kKeep_eq, segs_nil, segs_n, ops_nil, ops_cons, qsegs_n, qops_cons, vcqOp, vcOp, isRd, ev, look, put_mk, keep_mk, keepL, Nat.reduceEqDiff, ↓reduceIte, reduceCtorEq, Nat.add_zero, Bool.true_and, true_and, br_t]
  have hfl := findL_le l t.node
  have hlk := h.look
  obtain ⟨nv, wv, e, mn, mw, mo, ts, vs, rfl, p⟩ := h
  have hlts := p.told.len
  have hlen0 : 0 < l.length := List.length_pos_iff.2 p.ne
  obtain ⟨a0, c, hnv⟩ := slr_len p.rows.toR
  rw [List.length_map, hlts] at hnv
  subst hnv
  obtain ⟨b2, o2, rfl, _, hc, _⟩ := p.rows.toR.spot (by simp; omega)
  obtain ⟨d1, d2, d3, hrows, htold, hne, hwas, holds⟩ := p
  have hd1n := dis_of_uni_r d1
  have hcell : ∀ {C : Ctx} {ph : List PH}, Seen C ph (uni (one b (.cells #[.slice (some ⟨b2, o2, none⟩) l.length c, wv] e (0, 0))) (uni mn (uni mw mo))) b 0 (.s (.slice (some ⟨b2, o2, none⟩) l.length c)) := fun {C ph} => seen_cell kn_m (sub_uni_l _ _ _ _ (one_self _ _)) rfl rfl
  refine ⟨fun his => ?_, fun hno => ?_⟩
  · have hlt : findL l t.node < l.length := by
      rcases Nat.lt_or_ge (findL l t.node) l.length with h | h
      · exact h
      · rw [isL, List.getElem?_eq_none h] at his; cases his
    refine ld_of _ hcell rfl ?_
    simp (maxSteps := 2000000) only [segs_n, ops_cons, qsegs_nil, qops_nil, qops_cons, vcqOp, vcOp, isRd, ev, look, put_mk, Nat.reduceEqDiff, ↓reduceIte, reduceCtorEq, Bool.true_and, true_and, Int.toNat_natCast, getT_nil, gTreeNode_fits]
    refine ⟨⟨by omega, by omega⟩, ?_⟩
    obtain ⟨cs, g1, g2, g3⟩ := hrows.stored (i := findL l t.node) (by simp; omega) (gTreeNode_ok t (TnOk_one ht.2.2.2)) (gTreeNode_sz t)
    have hb2 : (one b (.cells #[.slice (some ⟨b2, o2, none⟩) l.length c, wv] e (0, 0))) b2 = none := by
      rcases hd1n.1 b2 with q | q
      · exact q
      · rw [g1] at q; cases q
    refine st_of (gTreeNode_sz t) cs 39 ⟨by simp only [uni, hb2, Option.none_or, g1, Option.some_or], g2⟩ ?_
    simp (maxSteps := 2000000) only [vc_ret, thenQ_n, thenQ_r, kKeep_eq, finQ_r, segs_nil, ops_nil, put_mk0, keep_mk, keepL]
    rw [uni_upd hb2, uni_upd_l]
    refine fin_m _ rfl (fun _ _ h => h) ⟨rfl, _, _, _, _, _, _, ts.set (findL l t.node) t, vs, rfl, ⟨?_, dis_upd_l d2 (by rw [g1]; simp), d3, ?_, ?_, ?_, hwas, holds⟩⟩
    · rw [← uni_upd_l]; exact dis_upd d1 hb2
    · rw [List.map_set]; exact g3
    · rw [putL, ← ht.1, if_pos his]; exact htold.set ht
    · rw [putL, ← ht.1, if_pos his]
      intro e
      have := congrArg List.length e
      simp only [List.length_set, List.length_nil] at this
      omega
  · refine ld_of _ hcell rfl ?_
    simp (maxSteps := 2000000) only [ops_cons, vcOp, ev, look, put_mk, bndN, Nat.reduceEqDiff, Nat.reduceMul, ↓reduceIte, reduceCtorEq, Nat.add_zero, Int.toNat_natCast]
    refine ⟨by omega, ?_⟩
    have hM : uni (one b (.cells #[.slice (some ⟨b2, o2, none⟩) l.length c, wv] e (0, 0))) (uni mn (uni mw mo)) = uni mn (uni (one b (.cells #[.slice (some ⟨b2, o2, none⟩) l.length c, wv] e (0, 0))) (uni mw mo)) := by rw [← uni_assoc, uni_comm hd1n.1, uni_assoc]
    refine gh_frz hM (dis_uni_r (dis_comm hd1n.1) d2) ?_
    simp (maxSteps := 2000000) only [ops_cons, vcOp]
    have hlo : SlR mn (.slice (some ⟨b2, if c = 0 then o2 else o2 + 0 * 4, none⟩) (findL l t.node - 0) (c - 0)) 4 ((ts.take (findL l t.node)).map gTreeNode) := by
      have := hrows.toR.cut (lo := 0) (hi := findL l t.node) (by omega) (by omega)
      rw [Nat.sub_zero, List.drop_zero] at this
      rw [List.map_take]; exact this
    have hhi : SlR mn (.slice (some ⟨b2, if c = findL l t.node then o2 else o2 + findL l t.node * 4, none⟩) (l.length - findL l t.node) (c - findL l t.node)) 4 ((ts.drop (findL l t.node)).map gTreeNode) := by
      have := hrows.toR.cut (lo := findL l t.node) (hi := l.length) (by omega) (by omega)
      rw [List.map_drop]
      rw [List.take_of_length_le (by simp; omega)] at this
      exact this
    refine gh_rk 27 27 (gTreeNode zTreeNode) rfl rfl hlo (KN.mem (by simp)) ?_
    simp (maxSteps := 2000000) only [List.length_map, ops_cons, vcOp, ev, look, rowE, Value.oneCell', cond_true, ↓reduceIte, Bool.true_and, true_and, List.drop_zero, List.length_map, List.length_map]
    have hlt1 : (ts.take (findL l t.node)).length = findL l t.node := by rw [List.length_take]; omega
    have hlt2 : (ts.drop (findL l t.node)).length = l.length - findL l t.node := by rw [List.length_drop]; omega
    have tk : ∀ ys : List TreeNode, List.take ys.length (ys.map gTreeNode) = ys.map gTreeNode := fun ys => List.take_of_length_le (by simp)
    rw [tk]
    refine app_nil rfl rfl (by omega) ?_
    simp (maxSteps := 2000000) only [List.length_map, vc_seq, vc_rg, thenQ_n, kKeep_eq, segs_nil, segs_n, ops_nil, ops_cons, vcOp, ev, evL, gvL, look, updL, put_mk, keep_mk, keepL, rowE, cond_true, cond_false, Nat.reduceEqDiff, Nat.reduceBEq, ↓reduceIte, reduceCtorEq, Nat.zero_add, Nat.add_zero, Bool.and_true, Bool.true_and, BEq.rfl, true_and, and_true, Option.map_some, szAll, List.length_cons, List.length_nil, kill, SV.mentions, ne_eq, not_false_eq_true, List.drop_zero, List.take_succ_cons, List.take_zero, getT_nil, List.length_map, gTreeNode_sz, gTreeNode_fits, List.length_map]
    refine ⟨by omega, ?_⟩
    refine ld_of _ (seen_cell kn_m (sub_uni_l _ _ _ _ (one_self _ _)) rfl rfl) rfl ?_
    simp (maxSteps := 2000000) only [ops_cons, vcOp, ev, look, put_mk, rowE, bndN, Nat.reduceEqDiff, ↓reduceIte, reduceCtorEq, Int.toNat_natCast]
    refine ⟨by omega, ?_⟩
    refine gh_rk 40 40 (gTreeNode zTreeNode) rfl rfl (by simpa using hhi) (KN.mem (by simp)) ?_
    simp (maxSteps := 2000000) only [List.length_map, List.length_append, ops_cons, vcOp, ev, look, updL, put_mk, rowE, cond_true, cond_false, Nat.reduceEqDiff, Nat.reduceBEq, ↓reduceIte, Nat.zero_add, Bool.and_true, Bool.true_and, BEq.rfl, true_and, and_true, List.length_cons, List.length_nil, kill, SV.mentions, ne_eq, not_false_eq_true, List.drop_zero, List.length_map, List.length_map]
    refine ⟨by simp only [List.length_drop, List.length_map]; omega, ?_⟩
    refine gh_pub 41 28 _ rfl rfl ?_ fun v u hv hs hd => ?_
    · simp only [List.length_append, List.length_map, List.length_cons, List.length_nil, List.length_take, List.length_drop]; omega
    simp (maxSteps := 2000000) only [ops_cons, vcOp, ev, look, put_mk, cond_true, cond_false, Nat.reduceEqDiff, Nat.reduceBEq, ↓reduceIte, Nat.add_zero, BEq.rfl, kill, SV.mentions]
    obtain ⟨e1, e2⟩ := dis_of_uni_r hd
    have hub : u b = none := by
      rcases e1 b with q | q
      · exact q
      · rw [one_self] at q; cases q
    refine st_of rfl #[.slice (some ⟨b2, o2, none⟩) l.length c, wv] e ⟨by simp only [uni, hub, Option.none_or, one_self, Option.some_or], by simp⟩ ?_
    simp (maxSteps := 2000000) only [kKeep_eq, finQ_n, segs_nil, ops_nil, put_mk0, keep_mk, keepL]
    rw [uni_upd hub, uni_one_upd]
    have hM2 : uni u (uni (one b (.cells #[v, wv] e (0, 0))) (uni mw mo)) = uni (one b (.cells #[v, wv] e (0, 0))) (uni u (uni mw mo)) := by
      rw [← uni_assoc, uni_comm (dis_comm (dis_one_of (dis_comm e1))), uni_assoc]
    refine fin_m (uni (one b (.cells #[v, wv] e (0, 0))) (uni u (uni mw mo))) rfl (by intro x y hxy; rw [← hM2] at hxy; exact hxy) ⟨rfl, v, wv, e, u, mw, mo, ts.take (findL l t.node) ++ t :: ts.drop (findL l t.node), vs, rfl, ⟨dis_uni_r (dis_one_of (dis_comm e1)) (dis_one_of hd1n.2), e2, d3, ?_, ?_, ?_, hwas, holds⟩⟩
    · have := hs
      simp only [List.map_append, List.map_cons, List.map_drop, List.append_assoc, List.cons_append, List.nil_append] at this ⊢
      rw [List.take_length] at this
      exact this
    · rw [putL, ← ht.1, hno, if_neg (by simp)]; exact htold.ins ht _
    · rw [putL, ← ht.1, hno, if_neg (by simp)]; simp
end Go.Proofs.YtdpknchgoeboaaaGreat.Vc

/- The document's lists of nodes: told plainly; an attribute set. -/
set_option linter.unusedVariables false
set_option linter.unusedSimpArgs false
set_option maxRecDepth 100000
namespace Go.Proofs.YtdpknchgoeboaaaGreat.Vc
open Go Go.Proofs

def plainL (l : List TN) : List TN := l.filter fun t => decide (t.node > 2) || decide (0 < t.attrs.length)

theorem Plain_spec (w : World) (va : Value) (ts : List TreeNode) (l : List TN) (u : PH) (hu : u.le w) (ha : SlR u va 4 (ts.map gTreeNode)) (hts : TsOk u ts l) (hn : l.length ≤ 1099511627776) (hs : ∀ t ∈ l, t.attrs.length ≤ 1099511627776) :
    Spec Tryz.prog f_ref12_Plain [va] PH.no w fun rs m' => ∃ v ts', rs = [.s v] ∧ SlR m' v 4 (ts'.map gTreeNode) ∧ TsOk m' ts' (plainL l) := by
  refine spec_of k_ref12_Plain [.ro va 4 (gTreeNode zTreeNode) (ts.map gTreeNode)] (by simp) (by simpa [AV.ok, u0_no] using ha.up hu.sub) ?_
  have hlts := hts.len
  simp (maxSteps := 2000000) only [c_ref12_Plain, vc_seq, vc_rg, thenQ_n, kKeep_eq, segs_nil, segs_n, ops_nil, ops_cons, vcOp, ev, look, put_mk, keep_mk, keepL, Value.oneCell', cond_true, ↓reduceIte, reduceCtorEq, initF, initP, List.length_map, List.length_map]
  refine gh_nil 3 3 39 4 (gTreeNode zTreeNode) rfl rfl ?_
  simp (maxSteps := 2000000) only [vc_block, thenQ_n, kKeep_eq, segs_nil, ops_nil, ops_cons, vcOp, ev, look, put_mk, keep_mk, keepL, Value.oneCell', cond_true, Nat.reduceEqDiff, ↓reduceIte, reduceCtorEq]
  refine vc_loop (ι := Nat × List TreeNode) (fun q => ⟨[(0, .row 0 0 (ts.length)), (3, .row 3 0 (q.2.length)), (4, .g (.s (.int .i64 (q.1))))], [(0, .ro 4 (gTreeNode zTreeNode) (ts.map gTreeNode)), (3, .row 39 4 (gTreeNode zTreeNode) (q.2.map gTreeNode))], [], PH.no⟩)
    (fun q => q.1 ≤ ts.length ∧ q.2.length ≤ q.1 ∧ TsOk u q.2 (plainL (l.take q.1))) (fun q => ts.length - q.1) (0, []) ⟨by simp, by simp, trivial⟩ (ge_of ?_ ?_ rfl rfl rfl) ?_
  · simp [frIn, look]
  · simp [pvIn, look]
  rintro ⟨i, os⟩ ⟨hi, hol, hos⟩
  simp only at hi hol hos
  generalize hQ : loopQ _ _ _ _ _ = Q
  simp (maxSteps := 2000000) only [c_ref12_Plain_L0, vc_skip, vc_exit, vc_seq, vc_block, vc_rg, vc_ite, thenQ_n, thenQ_e, blockQ_n, kKeep_eq, segs_nil, segs_n, segs_g, ops_nil, ops_cons, vcOp, RO.isGh, skip_mk, skipL, ev, evL, gvL, look, updL, put_mk, keep_mk, keepL, rowE, rowD, binV, binC, GV.getT, Value.oneCell', cond_true, cond_false, Nat.reduceEqDiff, Nat.reduceBEq, ↓reduceIte, reduceCtorEq, List.nil_append, Nat.zero_add, Bool.and_true, Bool.true_and, Bool.not_false, BEq.rfl, true_and, and_true, Option.map_some, szAll, List.length_cons, List.length_nil, Int.toNat_natCast, decide_eq_true_eq, decide_eq_false_iff_not, kill, SV.mentions, ne_eq, not_false_eq_true, List.drop_zero, List.take_succ_cons, List.take_zero, ↓br_tt, ↓br_ft, br_t, br_f, getT_nil, List.length_map, fits_s, gTreeNode_sz, gTreeNode_fits, gTreeNode_fld0, gTreeNode_get0, gTreeNode_fld3, gTreeNode_get3, gTreeNode_zero, getD_gTreeNode, List.length_map]
  refine ⟨fun hlt => ⟨⟨by omega, by omega⟩, ?_⟩, fun hge => ?_⟩
  · obtain ⟨t, ht⟩ : ∃ t, ts.getD i zTreeNode = t := ⟨_, rfl⟩
    obtain ⟨r, hr⟩ : ∃ r, l.getD i zTN = r := ⟨_, rfl⟩
    have hrm : r ∈ l := by rw [← hr, List.getD_eq_getElem?_getD, List.getElem?_eq_getElem (by omega)]; exact List.getElem_mem _
    obtain ⟨e1, e2, e3, hsl⟩ := hts.at i (by omega)
    rw [ht, hr] at e1 e2 e3 hsl
    have htake : plainL (l.take (i + 1)) = plainL (l.take i) ++ if (decide (r.node > 2) || decide (0 < r.attrs.length)) = true then [r] else [] := by
      rw [List.take_add_one]
      have : l[i]?.toList = [r] := by rw [← hr, List.getD_eq_getElem?_getD, List.getElem?_eq_getElem (by omega)]; rfl
      rw [this, plainL, List.filter_append, List.filter_cons]
      rfl
    obtain ⟨a, c, hv⟩ := slr_len hsl
    rw [List.length_map] at hv
    rw [ht]
    have yes : (decide (r.node > 2) || decide (0 < r.attrs.length)) = true → ∀ (fr : List (Nat × SV)) (pv : List (Nat × PV)), frIn fr [(0, .row 0 0 (ts.length)), (3, .row 3 0 (os.length + 1)), (4, .g (.s (.int .i64 ((i + 1 : Nat)))))] →
        pvIn pv [(0, .ro 4 (gTreeNode zTreeNode) (ts.map gTreeNode)), (3, .row 39 4 (gTreeNode zTreeNode) (os.map gTreeNode ++ [gTreeNode t]))] → Q .normal ⟨fr, pv, [], PH.no⟩ := by
      intro hy fr pv hfr hpv
      subst hQ; simp only [loopQ_n]
      refine ⟨(i + 1, os ++ [t]), ⟨by simp only; omega, by simp; omega, ?_⟩, by simp only; omega, ge_of (by simpa using hfr) (by simpa using hpv) rfl rfl rfl⟩
      simp only
      rw [htake, if_pos hy]
      exact hos.snoc ⟨e1, e2, e3, hsl⟩
    have no : (decide (r.node > 2) || decide (0 < r.attrs.length)) = false → ∀ (fr : List (Nat × SV)) (pv : List (Nat × PV)), frIn fr [(0, .row 0 0 (ts.length)), (3, .row 3 0 (os.length)), (4, .g (.s (.int .i64 ((i + 1 : Nat)))))] →
        pvIn pv [(0, .ro 4 (gTreeNode zTreeNode) (ts.map gTreeNode)), (3, .row 39 4 (gTreeNode zTreeNode) (os.map gTreeNode))] → Q .normal ⟨fr, pv, [], PH.no⟩ := by
      intro hy fr pv hfr hpv
      subst hQ; simp only [loopQ_n]
      refine ⟨(i + 1, os), ⟨by simp only; omega, by simp only; omega, ?_⟩, by simp only; omega, ge_of hfr hpv rfl rfl rfl⟩
      simp only
      rw [htake, hy]
      simpa using hos
    obtain ⟨tn, tp, tm, tv⟩ := t
    simp only at e1 e2 e3 hsl hv
    subst hv
    simp (maxSteps := 2000000) only []
    rw [← e1] at yes no
    refine ⟨fun k1 => ⟨⟨by omega, by omega⟩, fun k2 => ⟨⟨by omega, by omega⟩, by omega, yes ?_ _ _ ?_ ?_⟩, fun k2 => no ?_ _ _ ?_ ?_⟩, fun k1 => ⟨⟨by omega, by omega⟩, by omega, yes ?_ _ _ ?_ ?_⟩⟩
    · rw [decide_eq_false k1, decide_eq_true (by omega)]; rfl
    · simp only [frIn, look, Nat.reduceEqDiff, ↓reduceIte, reduceCtorEq, Bool.and_true, Bool.true_and, true_and, and_true]
      rw [wrap_n (by omega)]
      try simp
    · simp [pvIn, look]
    · rw [decide_eq_false k1, decide_eq_false (by omega)]; rfl
    · simp only [frIn, look, Nat.reduceEqDiff, ↓reduceIte, reduceCtorEq, Bool.and_true, Bool.true_and, true_and, and_true]
      rw [wrap_n (by omega)]
      try simp
    · simp [pvIn, look]
    · rw [decide_eq_true k1]; rfl
    · simp only [frIn, look, Nat.reduceEqDiff, ↓reduceIte, reduceCtorEq, Bool.and_true, Bool.true_and, true_and, and_true]
      rw [wrap_n (by omega)]
      try simp
    · simp [pvIn, look]
  · subst hQ
    simp (maxSteps := 2000000) only [vc_seq, vc_rg, thenQ_n, blockQ_e, loopQ_e, segs_n, ops_cons, vcOp, ev, look, put_mk, ↓reduceIte, reduceCtorEq]
    refine call_ownm rfl rfl (Q := fun rs m' => ∃ v mn ma ts', rs = [.s v] ∧ m' = uni mn ma ∧ dis mn ma ∧ SlO mn v 39 4 (ts'.map gTreeNode) ∧ TsOk ma ts' (plainL l)) (fun w' vs hv hw _ _ => ?_) fun rs m1 _ hq _ => ?_
    · obtain ⟨v1, vs, rfl, k1, hv⟩ := argsV_row (z := 4) (xs := os.map gTreeNode) rfl (by simp) hv
      obtain rfl := argsV_nil hv
      have hi' : i = l.length := by omega
      rw [hi', List.take_length] at hos
      have h1 : PH.sub u w'.ph := fun b o h => hw b o (by rw [u0_no]; exact hu b o h)
      have h2 := hos.len
      have h3 : (plainL l).length ≤ l.length := List.length_filter_le _ _
      exact clone_spec w' v1 os (plainL l) w'.ph (fun _ _ h => h) k1 (hos.up h1) (by omega) fun t ht => hs t (List.mem_filter.1 ht).1
    obtain ⟨v, mn, ma, ts', rfl, rfl, hd, h1, h2⟩ := hq
    simp (maxSteps := 2000000) only [retS, uni_no_r, vc_ret, thenQ_n, kKeep_eq, finQ_r, segs_nil, ops_nil, ops_cons, vcOp, ev, look, put_mk, keep_mk, keepL, ↓reduceIte]
    exact fin_m (rs := [.s v]) _ rfl (fun _ _ h => h) ⟨v, ts', rfl, h1.toR.up (sub_uni_l _ _), h2.up (sub_uni_r hd)⟩

theorem rNodes_spec (w : World) (A m : PH) (hm : m.le w) (hA : A.le w) (b : Nat) (l : List TN) (ls : List (List TN)) (h : RM A m b l ls) (hn : l.length ≤ 1099511627776) (hs : ∀ t ∈ l, t.attrs.length ≤ 1099511627776) :
    Spec Tryz.prog f_ref12_Tree_Nodes [ptr b] PH.no w fun rs m' => ∃ v ts', rs = [.s v] ∧ SlR m' v 4 (ts'.map gTreeNode) ∧ TsOk m' ts' (plainL l) := by
  refine spec_of k_ref12_Tree_Nodes [.g (.s (ptr b))] (by simp) (by simp [AV.ok, GV.ok, Value.oneCell', ptr]) ?_
  obtain ⟨b2, o2, c, ts, hlts, h0, hts, hsl, hs0, _⟩ := h.look
  have hk : ∀ {l : List PH}, KN (⟨Tryz.prog, 8, w, PH.no⟩ : Ctx).u0 l m := kn_u hm
  simp (maxSteps := 2000000) only [c_ref12_Tree_Nodes, vc_seq, vc_rg, thenQ_n, kKeep_eq, segs_nil, segs_n, ops_nil, ops_cons, vcOp, ev, look, put_mk, keep_mk, keepL, Value.oneCell', cond_true, ↓reduceIte, reduceCtorEq, Nat.add_zero, initF, initP, ptr]
  refine ld_of _ (hs0 hk) rfl ?_
  simp (maxSteps := 2000000) only [ops_cons, vcOp, put_mk]
  refine call_ownm rfl rfl (Q := fun rs m' => ∃ v ts', rs = [.s v] ∧ SlR m' v 4 (ts'.map gTreeNode) ∧ TsOk m' ts' (plainL l)) (fun w' vs hv hw _ _ => ?_) fun rs m1 _ hq _ => ?_
  · obtain ⟨vs, rfl, _, hv⟩ := argsV_g hv
    obtain rfl := argsV_nil hv
    have sm : PH.sub m w'.ph := fun b o h => hw b o (by rw [u0_no]; exact hm b o h)
    have sA : PH.sub A w'.ph := fun b o h => hw b o (by rw [u0_no]; exact hA b o h)
    exact Plain_spec w' _ ts l w'.ph (fun _ _ h => h) (hsl.up sm) (hts.up sA) hn hs
  obtain ⟨v, ts', rfl, h1, h2⟩ := hq
  simp (maxSteps := 2000000) only [retS, uni_no_r, vc_ret, thenQ_n, kKeep_eq, finQ_r, segs_nil, ops_nil, ops_cons, vcOp, ev, look, put_mk, keep_mk, keepL, ↓reduceIte]
  exact fin_m (rs := [.s v]) _ rfl (fun _ _ h => h) ⟨v, ts', rfl, h1, h2⟩

/-! ### set -/
def setG (key value : ByteArray) : List Attr → Bool → List Attr
  | [], d => if d = true then [] else [⟨key, value⟩]
  | a :: l, d => (if (!d && !_root_.Go.Op.bytesLess a.key.data.toList key.data.toList) = true then [⟨key, value⟩] else []) ++ (if a.key = key then [] else [a]) ++ setG key value l (d || !_root_.Go.Op.bytesLess a.key.data.toList key.data.toList)
def setL (l : List Attr) (key value : ByteArray) : List Attr := setG key value l (decide (value = ⟨#[]⟩))
theorem setG_len (key value : ByteArray) : ∀ (l : List Attr) (d : Bool), (setG key value l d).length ≤ l.length + if d = true then 0 else 1
  | [], d => by cases d <;> simp [setG]
  | a :: l, d => by
    have ih := setG_len key value l (d || !_root_.Go.Op.bytesLess a.key.data.toList key.data.toList)
    have h1 : (if a.key = key then ([] : List Attr) else [a]).length ≤ 1 := by split <;> simp
    rw [setG]
    simp only [List.length_append, List.length_cons]
    generalize _root_.Go.Op.bytesLess a.key.data.toList key.data.toList = bb at *
    cases d <;> cases bb <;> simp at ih ⊢ <;> omega

theorem set_spec (w : World) (v : Value) (l : List Attr) (key value : ByteArray) (u : PH) (hu : u.le w) (h : SlR u v 2 (l.map gAttr)) (hl : l.length ≤ 1099511627776) :
    Spec Tryz.prog f_ref12_set [v, .string key, .string value] PH.no w fun rs m' => ∃ v', rs = [.s v'] ∧ SlO m' v' 41 2 ((setL l key value).map gAttr) := by
  refine spec_of k_ref12_set [.ro v 2 (gAttr zAttr) (l.map gAttr), .g (.s (.string key)), .g (.s (.string value))] (by simp) (by simpa [AV.ok, u0_no, GV.ok, Value.oneCell'] using h.up hu.sub) ?_
  simp (maxSteps := 2000000) only [c_ref12_set, vc_seq, vc_rg, thenQ_n, kKeep_eq, segs_nil, segs_n, ops_nil, ops_cons, vcOp, ev, look, put_mk, keep_mk, keepL, Value.oneCell', cond_true, Nat.reduceEqDiff, Nat.reduceAdd, ↓reduceIte, reduceCtorEq, Nat.zero_add, initF, initP, Int.reduceAdd, List.length_map, List.length_map]
  refine gh_nil 7 7 41 2 (gAttr zAttr) rfl rfl ?_
  simp (maxSteps := 2000000) only [vc_seq, vc_block, vc_rg, thenQ_n, kKeep_eq, segs_nil, segs_n, ops_nil, ops_cons, vcOp, ev, look, put_mk, keep_mk, keepL, binV, binC, Value.oneCell', cond_true, Nat.reduceEqDiff, ↓reduceIte, reduceCtorEq, Bool.true_and, true_and]
  have h0 := setG_len key value l (decide (value = ⟨#[]⟩))
  refine vc_loop (ι := Nat × List Attr × Bool) (fun q => ⟨[(0, .row 0 0 (l.length)), (1, .g (.s (.string (key)))), (2, .g (.s (.string (value)))), (7, .row 7 0 (q.2.1.length)), (8, .g (.s (.bool (q.2.2)))), (9, .g (.s (.int .i64 (q.1))))], [(0, .ro 2 (gAttr zAttr) (l.map gAttr)), (7, .row 41 2 (gAttr zAttr) (q.2.1.map gAttr))], [], PH.no⟩)
    (fun q => q.1 ≤ l.length ∧ setL l key value = q.2.1 ++ setG key value (l.drop q.1) q.2.2) (fun q => l.length - q.1) (0, [], decide (value = ⟨#[]⟩)) ⟨by simp, by simp [setL]⟩ (ge_of ?_ ?_ rfl rfl rfl) ?_
  · simp [frIn, look]
  · simp [pvIn, look]
  rintro ⟨i, os, d⟩ ⟨hi, hj⟩
  simp only at hi hj
  generalize hQ : loopQ _ _ _ _ _ = Q
  have hos : os.length ≤ l.length + 1 := by
    have := congrArg List.length hj
    rw [List.length_append, setL] at this
    split at h0 <;> omega
  simp (maxSteps := 2000000) only [c_ref12_set_L0, vc_skip, vc_exit, vc_seq, vc_block, vc_rg, vc_ite, thenQ_n, thenQ_e, blockQ_n, kKeep_eq, segs_nil, segs_n, segs_g, ops_nil, ops_cons, vcOp, RO.isGh, skip_mk, skipL, ev, evL, gvL, look, updL, put_mk, keep_mk, keepL, rowE, rowD, binV, binC, unV, GV.getT, GV.sz, GV.same, GV.setT, Value.oneCell', cond_true, cond_false, Nat.reduceEqDiff, Nat.reduceAdd, Nat.reduceBEq, ↓reduceIte, reduceCtorEq, List.nil_append, Nat.zero_add, Nat.add_zero, Bool.and_true, Bool.true_and, Bool.not_true, Bool.not_false, BEq.rfl, true_and, and_true, List.map_cons, List.map_nil, Option.map_some, szAll, List.length_cons, List.length_nil, Int.toNat_natCast, Int.reduceAdd, decide_eq_true_eq, decide_eq_false_iff_not, kill, SV.mentions, ne_eq, not_false_eq_true, List.drop_zero, List.take_succ_cons, List.take_zero, ↓br_tt, ↓br_ft, br_t, GV.bldT, GV.bldC, getT_nil, List.length_map, fits_s, gAttr_sz, gAttr_fits, gAttr_fld0, gAttr_get0, getD_gAttr, List.length_map]
  refine ⟨fun hlt => ?_, fun hge => ?_⟩
  · obtain ⟨a, ha⟩ : ∃ a, l.getD i zAttr = a := ⟨_, rfl⟩
    have hdrop : l.drop i = a :: l.drop (i + 1) := by
      rw [← ha, List.getD_eq_getElem?_getD, List.getElem?_eq_getElem (by omega)]
      exact List.drop_eq_getElem_cons (by omega)
    rw [hdrop, setG] at hj
    rw [ha]
    have go : ∀ (os' : List Attr) (d' : Bool), setL l key value = os' ++ setG key value (l.drop (i + 1)) d' → ∀ (fr : List (Nat × SV)) (pv : List (Nat × PV)), frIn fr [(0, .row 0 0 (l.length)), (1, .g (.s (.string (key)))), (2, .g (.s (.string (value)))), (7, .row 7 0 (os'.length)), (8, .g (.s (.bool (d')))), (9, .g (.s (.int .i64 ((i + 1 : Nat)))))] →
        pvIn pv [(0, .ro 2 (gAttr zAttr) (l.map gAttr)), (7, .row 41 2 (gAttr zAttr) (os'.map gAttr))] → Q .normal ⟨fr, pv, [], PH.no⟩ := by
      intro os' d' h1 fr pv hfr hpv
      subst hQ; simp only [loopQ_n]
      exact ⟨(i + 1, os', d'), ⟨by simp only; omega, h1⟩, by simp only; omega, ge_of hfr hpv rfl rfl rfl⟩
    generalize hb : _root_.Go.Op.bytesLess a.key.data.toList key.data.toList = bb at hj
    have hdk : (!decide (a.key = key)) = decide (a.key ≠ key) := by simp
    refine ⟨fun k1 => ⟨⟨by omega, by omega⟩, fun k2 => ⟨⟨rfl, rfl⟩, by omega, ⟨by omega, by omega⟩, fun k3 => ⟨⟨by omega, by omega⟩, by simp, by omega, ?_⟩, fun k3 => ?_⟩, fun k2 => ⟨⟨by omega, by omega⟩, fun k3 => ⟨⟨by omega, by omega⟩, by omega, ?_⟩, fun k3 => ?_⟩⟩, fun k1 => ⟨⟨by omega, by omega⟩, fun k3 => ⟨⟨by omega, by omega⟩, by omega, ?_⟩, fun k3 => ?_⟩⟩
    all_goals rw [hb] at *
    all_goals simp only [Bool.not_eq_true', Bool.not_eq_false', decide_eq_false_iff_not, decide_eq_true_eq] at *
    · refine go (os ++ [⟨key, value⟩] ++ [a]) true (by rw [hj, k1, k2, if_neg k3]; simp) _ _ ?_ ?_
      · simp only [frIn, look, Nat.reduceEqDiff, ↓reduceIte, reduceCtorEq, Nat.zero_add, Bool.and_true, Bool.true_and, true_and, and_true, List.length_cons, List.length_nil, List.length_append, List.length_cons, List.length_nil]
        rw [wrap_n (by omega)]
        try simp
      · simp only [pvIn, look, ↓reduceIte, reduceCtorEq, Bool.and_true, Bool.true_and, true_and, and_true, List.map_cons, List.map_nil, List.map_append, List.map_cons, List.map_nil]
        try simp
        try rfl
    · refine go (os ++ [⟨key, value⟩]) true (by rw [hj, k1, k2, if_pos k3]; simp) _ _ ?_ ?_
      · simp only [frIn, look, Nat.reduceEqDiff, ↓reduceIte, reduceCtorEq, Nat.zero_add, Bool.and_true, Bool.true_and, true_and, and_true, List.length_cons, List.length_nil, List.length_append, List.length_cons, List.length_nil]
        rw [wrap_n (by omega)]
        try simp
      · simp only [pvIn, look, ↓reduceIte, reduceCtorEq, Bool.and_true, Bool.true_and, true_and, and_true, List.map_cons, List.map_nil, List.map_append, List.map_cons, List.map_nil]
        try simp
        try rfl
    · refine go (os ++ [a]) d (by rw [hj, k1, k2, if_neg k3]; simp) _ _ ?_ ?_
      · simp only [frIn, look, Nat.reduceEqDiff, ↓reduceIte, reduceCtorEq, Nat.zero_add, Bool.and_true, Bool.true_and, true_and, and_true, List.length_cons, List.length_nil, List.length_append, List.length_cons, List.length_nil]
        rw [wrap_n (by omega)]
        try simp
      · simp only [pvIn, look, ↓reduceIte, reduceCtorEq, Bool.and_true, and_true, List.map_cons, List.map_nil, List.map_append, List.map_cons, List.map_nil]
        try simp
        try rfl
    · refine go (os) d (by rw [hj, k1, k2, if_pos k3]; simp) _ _ ?_ ?_
      · simp only [frIn, look, Nat.reduceEqDiff, ↓reduceIte, reduceCtorEq, Bool.and_true, Bool.true_and, true_and, and_true]
        rw [wrap_n (by omega)]
        try simp
      · simp only [pvIn, look, ↓reduceIte, reduceCtorEq, Bool.and_true, and_true]
        try simp
        try rfl
    · refine go (os ++ [a]) d (by rw [hj, k1, if_neg k3]; simp) _ _ ?_ ?_
      · simp only [frIn, look, Nat.reduceEqDiff, ↓reduceIte, reduceCtorEq, Nat.zero_add, Bool.and_true, Bool.true_and, true_and, and_true, List.length_cons, List.length_nil, List.length_append, List.length_cons, List.length_nil]
        rw [wrap_n (by omega)]
        try simp
      · simp only [pvIn, look, ↓reduceIte, reduceCtorEq, Bool.and_true, and_true, List.map_cons, List.map_nil, List.map_append, List.map_cons, List.map_nil]
        try simp
        try rfl
    · refine go (os) d (by rw [hj, k1, if_pos k3]; simp) _ _ ?_ ?_
      · simp only [frIn, look, Nat.reduceEqDiff, ↓reduceIte, reduceCtorEq, Bool.and_true, Bool.true_and, true_and, and_true]
        rw [wrap_n (by omega)]
        try simp
      · simp only [pvIn, look, ↓reduceIte, reduceCtorEq, Bool.and_true, and_true]
        try simp
        try rfl
  · subst hQ
    simp (maxSteps := 2000000) only [vc_skip, vc_seq, vc_rg, vc_ite, thenQ_n, blockQ_e, kKeep_eq, loopQ_e, segs_nil, segs_n, ops_nil, ops_cons, vcOp, ev, evL, gvL, look, updL, put_mk, keep_mk, keepL, rowE, unV, GV.getT, GV.sz, GV.same, GV.setT, cond_true, cond_false, Nat.reduceEqDiff, Nat.reduceAdd, Nat.reduceBEq, ↓reduceIte, reduceCtorEq, Nat.zero_add, Nat.add_zero, Bool.and_true, Bool.true_and, BEq.rfl, true_and, and_true, List.map_cons, List.map_nil, Option.map_some, szAll, List.length_cons, List.length_nil, Int.reduceAdd, kill, SV.mentions, ne_eq, not_false_eq_true, List.drop_zero, List.take_succ_cons, List.take_zero, br_t, GV.bldT, GV.bldC, List.length_map, List.length_map]
    have hdr : l.drop i = [] := List.drop_of_length_le (by omega)
    rw [hdr, setG] at hj
    refine ⟨fun k1 => ⟨⟨rfl, rfl⟩, by omega, gh_pub 57 7 (os.length + 1) rfl rfl (by simp) fun v u hv hs hd => ?_⟩, fun k1 => gh_pub 57 7 os.length rfl rfl (by simp) fun v u hv hs hd => ?_⟩
    · simp (maxSteps := 2000000) only [vc_ret, thenQ_n, kKeep_eq, finQ_r, segs_nil, ops_nil, ops_cons, vcOp, ev, look, put_mk, keep_mk, keepL, cond_true, ↓reduceIte, BEq.rfl, kill, SV.mentions]
      rw [uni_no_r]
      refine fin_m (rs := [.s v]) _ rfl (fun _ _ h => h) ⟨v, rfl, ?_⟩
      rw [hj, if_neg (by simpa using k1), List.map_append]
      exact hs
    · simp (maxSteps := 2000000) only [vc_ret, thenQ_n, kKeep_eq, finQ_r, segs_nil, ops_nil, ops_cons, vcOp, ev, look, put_mk, keep_mk, keepL, cond_true, cond_false, ↓reduceIte, BEq.rfl, kill, SV.mentions]
      rw [uni_no_r]
      refine fin_m (rs := [.s v]) _ rfl (fun _ _ h => h) ⟨v, rfl, ?_⟩
      rw [hj, if_pos (by simpa using k1), List.append_nil]
      exact hs
end Go.Proofs.YtdpknchgoeboaaaGreat.Vc

/- The document's lists of nodes: what is seen of them: plain. -/
set_option linter.unusedVariables false
set_option linter.unusedSimpArgs false
namespace Go.Proofs.YtdpknchgoeboaaaGreat.Vc
open Go

/-! ### Attributes in order -/
theorem attrsA_sorted : ∀ {l : List Attr} {k : ByteArray}, attrsA k l = true → l.Pairwise (fun a b => a.key.data.toList < b.key.data.toList)
  | [], _, _ => List.Pairwise.nil
  | a :: l, k, h => by
    obtain ⟨_, _, _, h4⟩ := attrsA_cons h
    exact List.pairwise_cons.2 ⟨attrsA_above h4, attrsA_sorted h4⟩
theorem mem_lookA : ∀ {l : List Attr} {k : ByteArray}, attrsA k l = true → ∀ a, a ∈ l ↔ lookA l a.key = some a.value
  | [], _, _, a => by simp [lookA]
  | b :: l, k, h, a => by
    obtain ⟨_, _, _, h4⟩ := attrsA_cons h
    have ih := mem_lookA h4 a
    rw [lookA, List.mem_cons]
    by_cases e : b.key = a.key
    · rw [if_pos e]
      constructor
      · rintro (rfl | hm)
        · rfl
        · have := attrsA_above h4 a hm
          rw [e] at this
          exact absurd this (List.lt_irrefl _)
      · intro he
        obtain ⟨ak, av⟩ := a
        obtain ⟨bk, bv⟩ := b
        simp only at e
        simp only [Option.some.injEq] at he
        subst e; subst he
        exact .inl rfl
    · rw [if_neg e, ← ih]
      constructor
      · rintro (rfl | hm)
        · exact absurd rfl e
        · exact hm
      · exact .inr
theorem attrs_uniq {la lb : List Attr} (ha : attrsA ⟨#[]⟩ la = true) (hb : attrsA ⟨#[]⟩ lb = true) (h : lookA la = lookA lb) : la = lb := by
  have sa := attrsA_sorted ha
  have sb := attrsA_sorted hb
  have nd : ∀ {l : List Attr}, l.Pairwise (fun a b => a.key.data.toList < b.key.data.toList) → l.Nodup := fun hs => hs.imp fun {a b} hab e => by
    rw [e] at hab; exact List.lt_irrefl _ hab
  have hp : la.Perm lb := (List.perm_ext_iff_of_nodup (nd sa) (nd sb)).2 fun a => by rw [mem_lookA ha, mem_lookA hb, h]
  refine List.Perm.eq_of_pairwise (le := fun a b : Attr => a.key.data.toList < b.key.data.toList) (fun a b _ _ h1 h2 => ?_) sa sb hp
  exact absurd (List.lt_trans h1 h2) (List.lt_irrefl _)

/-! ### set -/
theorem attrsA_weak {l : List Attr} {k k' : ByteArray} (h : attrsA k l = true) (hk : ∀ a ∈ l, k'.data.toList < a.key.data.toList) : attrsA k' l = true := by
  cases l with
  | nil => rfl
  | cons a l =>
    obtain ⟨_, h2, h3, h4⟩ := attrsA_cons h
    have := hk a (by simp)
    have h1 : leB a.key k' = false := by
      rw [leB, bytesLess_lt, decide_eq_false (List.lt_asymm this), decide_eq_false]
      · rfl
      · intro e; rw [e] at this; exact List.lt_irrefl _ this
    rw [attrsA, h1, h3, h4, decide_eq_false h2]; rfl
theorem attrsA_mk {a : Attr} {l : List Attr} {k : ByteArray} (h1 : k.data.toList < a.key.data.toList) (h2 : a.value ≠ ⟨#[]⟩) (h3 : pairB a.key a.value = true) (h4 : attrsA a.key l = true) : attrsA k (a :: l) = true := by
  have h0 : leB a.key k = false := by
    rw [leB, bytesLess_lt, decide_eq_false (List.lt_asymm h1), decide_eq_false]
    · rfl
    · intro e; rw [e] at h1; exact List.lt_irrefl _ h1
  rw [attrsA, h0, h3, h4, decide_eq_false h2]; rfl
theorem setG_done (key value : ByteArray) : ∀ (l : List Attr), setG key value l true = l.filter fun a => !decide (a.key = key)
  | [] => rfl
  | a :: l => by
    rw [setG, Bool.true_or, setG_done key value l, List.filter_cons]
    by_cases e : a.key = key <;> simp [e]
theorem setL_ok {key value : ByteArray} (hp : pairB key value = true) : ∀ (l : List Attr) (k : ByteArray), attrsA k l = true → k.data.toList < key.data.toList → attrsA k (setG key value l (decide (value = ⟨#[]⟩))) = true := by
  by_cases hv : value = ⟨#[]⟩
  · intro l k h hk
    rw [decide_eq_true hv, setG_done]
    clear hk
    induction l generalizing k with
    | nil => rfl
    | cons a l ih =>
      obtain ⟨h1, h2, h3, h4⟩ := attrsA_cons h
      have hab := attrsA_above h a (by simp)
      rw [List.filter_cons]
      split
      · exact attrsA_mk hab h2 h3 (ih _ h4)
      · refine attrsA_weak (ih _ h4) fun b hb => ?_
        exact attrsA_above h b (List.mem_cons_of_mem _ (List.mem_filter.1 hb).1)
  · rw [decide_eq_false hv]
    intro l
    induction l with
    | nil => intro k _ hk; rw [setG, if_neg (by simp)]; exact attrsA_mk hk hv hp rfl
    | cons a l ih =>
      intro k h hk
      obtain ⟨h1, h2, h3, h4⟩ := attrsA_cons h
      have hab := attrsA_above h a (by simp)
      rw [setG, bytesLess_lt]
      by_cases hlt : a.key.data.toList < key.data.toList
      · have hne : a.key ≠ key := fun e => by rw [e] at hlt; exact List.lt_irrefl _ hlt
        rw [decide_eq_true hlt, if_neg (by simp), if_neg hne]
        exact attrsA_mk hab h2 h3 (ih _ h4 hlt)
      · rw [decide_eq_false hlt, if_pos (by simp)]
        simp only [Bool.not_false, Bool.false_or, Bool.true_and]
        rw [setG_done]
        refine attrsA_mk hk hv hp ?_
        have hall : ∀ b ∈ l.filter (fun a => !decide (a.key = key)), key.data.toList < b.key.data.toList := fun b hb => by
          have hb' := attrsA_above h4 b (List.mem_filter.1 hb).1
          have : key.data.toList ≤ a.key.data.toList := hlt
          exact List.lt_of_le_of_lt this hb'
        have hfil : ∀ (l : List Attr) (k : ByteArray), attrsA k l = true → attrsA k (l.filter fun a => !decide (a.key = key)) = true := by
          intro l
          induction l with
          | nil => intro k _; rfl
          | cons a l ih =>
            intro k h
            obtain ⟨h1, h2, h3, h4⟩ := attrsA_cons h
            have hab := attrsA_above h a (by simp)
            rw [List.filter_cons]
            split
            · exact attrsA_mk hab h2 h3 (ih _ h4)
            · exact attrsA_weak (ih _ h4) fun b hb => attrsA_above h b (List.mem_cons_of_mem _ (List.mem_filter.1 hb).1)
        by_cases he : a.key = key
        · rw [if_pos he]
          exact attrsA_weak (hfil _ _ h4) hall
        · rw [if_neg he]
          refine attrsA_mk (lt_of_le_ne hlt fun e => he (ByteArray.ext (Array.toList_inj.1 e.symm))) h2 h3 (hfil _ _ h4)
theorem lookA_filter (key : ByteArray) : ∀ (l : List Attr) (j : ByteArray), lookA (l.filter fun a => !decide (a.key = key)) j = if j = key then none else lookA l j
  | [], j => by simp [lookA]
  | a :: l, j => by
    have ih := lookA_filter key l j
    rw [List.filter_cons]
    by_cases e : a.key = key
    · rw [if_neg (by simp [e]), ih, lookA]
      by_cases hj : j = key
      · rw [if_pos hj, if_pos hj]
      · rw [if_neg hj, if_neg hj, if_neg (fun q => hj (q.symm.trans e))]
    · rw [if_pos (by simp [e]), lookA, ih, lookA]
      by_cases hj : j = key
      · rw [if_pos hj, if_neg (fun q => e (q.trans hj)), if_pos hj]
      · rw [if_neg hj, if_neg hj]
theorem setL_look {key value : ByteArray} : ∀ (l : List Attr) (k : ByteArray), attrsA k l = true → ∀ j, lookA (setG key value l (decide (value = ⟨#[]⟩))) j = if j = key then (if value = empty then none else some value) else lookA l j := by
  by_cases hv : value = ⟨#[]⟩
  · intro l k h j
    rw [decide_eq_true hv, setG_done, lookA_filter, if_pos (show value = empty from hv)]
  · rw [decide_eq_false hv]
    intro l
    induction l with
    | nil =>
      intro k _ j
      rw [setG, if_neg (by simp)]
      show (if key = j then some value else none) = if j = key then (if value = empty then none else some value) else none
      rw [if_neg (show ¬ value = empty from hv)]
      by_cases hj : key = j
      · rw [if_pos hj, if_pos hj.symm]
      · rw [if_neg hj, if_neg (fun e => hj e.symm)]
    | cons a l ih =>
      intro k h j
      obtain ⟨h1, h2, h3, h4⟩ := attrsA_cons h
      rw [if_neg (show ¬ value = empty from hv)]
      have ih := ih _ h4 j
      rw [if_neg (show ¬ value = empty from hv)] at ih
      rw [setG, bytesLess_lt]
      by_cases hlt : a.key.data.toList < key.data.toList
      · have hne : a.key ≠ key := fun e => by rw [e] at hlt; exact List.lt_irrefl _ hlt
        rw [decide_eq_true hlt, if_neg (by simp), if_neg hne]
        simp only [Bool.not_true, Bool.or_false, List.nil_append, List.cons_append]
        rw [lookA, ih, lookA]
        by_cases hj : a.key = j
        · rw [if_pos hj, if_pos hj, if_neg (fun e => hne (hj.trans e))]
        · rw [if_neg hj, if_neg hj]
      · rw [decide_eq_false hlt, if_pos (by simp)]
        simp only [Bool.not_false, Bool.false_or, Bool.true_and]
        rw [setG_done]
        show (if key = j then some value else lookA ((if a.key = key then [] else [a]) ++ l.filter fun a => !decide (a.key = key)) j) = if j = key then some value else (if a.key = j then some a.value else lookA l j)
        by_cases hj : key = j
        · rw [if_pos hj, if_pos hj.symm]
        · have hj' : ¬ j = key := fun e => hj e.symm
          rw [if_neg hj, if_neg hj']
          by_cases he : a.key = key
          · rw [if_pos he, List.nil_append, lookA_filter, if_neg hj', if_neg (fun e => hj (he.symm.trans e))]
          · rw [if_neg he]
            show (if a.key = j then some a.value else lookA (l.filter fun a => !decide (a.key = key)) j) = _
            rw [lookA_filter, if_neg hj']

/-! ### Lists in order -/
structure LOk (l : List TN) : Prop where
  sorted : l.Pairwise (fun a b => a.node < b.node)
  attrs : ∀ t ∈ l, attrsA ⟨#[]⟩ t.attrs = true
def getL (l : List TN) (n : Int) : Option TN := if isL l n = true then l[findL l n]? else none
def viewL (l : List TN) (n : Int) : Option AN := (getL l n).map fun t => ⟨t.parent, t.name, lookA t.attrs⟩
theorem getL_cons {t : TN} {l : List TN} (n : Int) : getL (t :: l) n = if t.node < n then getL l n else if t.node = n then some t else none := by
  unfold getL isL
  rw [findL]
  by_cases h1 : t.node < n
  · rw [if_pos h1, if_pos h1, List.getElem?_cons_succ]
  · rw [if_neg h1, if_neg h1, List.getElem?_cons_zero]
    by_cases h2 : t.node = n
    · simp [h2]
    · simp [h2]
theorem getL_mem : ∀ {l : List TN}, l.Pairwise (fun a b => a.node < b.node) → ∀ {n : Int} {t : TN}, getL l n = some t ↔ t ∈ l ∧ t.node = n
  | [], _, n, t => by simp [getL, isL]
  | a :: l, h, n, t => by
    rw [List.pairwise_cons] at h
    rw [getL_cons]
    by_cases h1 : a.node < n
    · rw [if_pos h1, getL_mem h.2]
      constructor
      · rintro ⟨q1, q2⟩; exact ⟨List.mem_cons_of_mem _ q1, q2⟩
      · rintro ⟨q1, q2⟩
        rcases List.mem_cons.1 q1 with rfl | q1
        · omega
        · exact ⟨q1, q2⟩
    · rw [if_neg h1]
      by_cases h2 : a.node = n
      · rw [if_pos h2]
        constructor
        · intro e; cases e; exact ⟨by simp, h2⟩
        · rintro ⟨q1, q2⟩
          rcases List.mem_cons.1 q1 with rfl | q1
          · rfl
          · have := h.1 t q1; omega
      · rw [if_neg h2]
        constructor
        · intro e; cases e
        · rintro ⟨q1, q2⟩
          rcases List.mem_cons.1 q1 with rfl | q1
          · exact absurd q2 h2
          · have := h.1 t q1; omega
theorem isL_get {l : List TN} {n : Int} : isL l n = (getL l n).isSome := by
  unfold getL
  cases h : isL l n with
  | false => rfl
  | true =>
    rw [if_pos rfl]
    unfold isL at h
    cases hg : l[findL l n]? with
    | none => rw [hg] at h; cases h
    | some t => rfl
theorem isL_view {l : List TN} {n : Int} : isL l n = (viewL l n).isSome := by
  rw [isL_get, viewL]; cases getL l n <;> rfl
theorem getL_at {l : List TN} {n : Int} {t : TN} (h : getL l n = some t) : findL l n < l.length ∧ l.getD (findL l n) zTN = t := by
  unfold getL at h
  split at h
  · have hl := (List.getElem?_eq_some_iff.1 h).1
    exact ⟨hl, by rw [List.getD_eq_getElem?_getD, h]; rfl⟩
  · cases h
theorem putL_cons {t a : TN} {l : List TN} : putL (t :: l) a = if t.node < a.node then t :: putL l a else if t.node = a.node then a :: l else a :: t :: l := by
  unfold putL isL
  rw [findL]
  by_cases h1 : t.node < a.node
  · rw [if_pos h1, if_pos h1, List.getElem?_cons_succ]
    cases l[findL l a.node]? with
    | none => simp
    | some x =>
      simp only [List.set_cons_succ, List.take_succ_cons, List.drop_succ_cons, List.cons_append]
      split <;> rfl
  · rw [if_neg h1, if_neg h1, List.getElem?_cons_zero]
    by_cases h2 : t.node = a.node
    · simp [h2]
    · simp [h2]
theorem putL_mem : ∀ {l : List TN} {a : TN}, l.Pairwise (fun a b => a.node < b.node) → ∀ t, t ∈ putL l a ↔ t = a ∨ (t ∈ l ∧ t.node ≠ a.node)
  | [], a, _, t => by simp [putL, isL, findL]
  | b :: l, a, h, t => by
    rw [List.pairwise_cons] at h
    rw [putL_cons]
    by_cases h1 : b.node < a.node
    · rw [if_pos h1, List.mem_cons, putL_mem h.2, List.mem_cons]
      constructor
      · rintro (rfl | q | q)
        · exact .inr ⟨.inl rfl, by omega⟩
        · exact .inl q
        · exact .inr ⟨.inr q.1, q.2⟩
      · rintro (q | ⟨rfl | q, r⟩)
        · exact .inr (.inl q)
        · exact .inl rfl
        · exact .inr (.inr ⟨q, r⟩)
    · rw [if_neg h1]
      by_cases h2 : b.node = a.node
      · rw [if_pos h2, List.mem_cons, List.mem_cons]
        constructor
        · rintro (q | q)
          · exact .inl q
          · exact .inr ⟨.inr q, by have := h.1 t q; omega⟩
        · rintro (q | ⟨rfl | q, r⟩)
          · exact .inl q
          · exact absurd h2 r
          · exact .inr q
      · rw [if_neg h2, List.mem_cons, List.mem_cons]
        constructor
        · rintro (q | rfl | q)
          · exact .inl q
          · exact .inr ⟨.inl rfl, h2⟩
          · exact .inr ⟨.inr q, by have := h.1 t q; omega⟩
        · rintro (q | ⟨q, r⟩)
          · exact .inl q
          · exact .inr q
theorem putL_sorted : ∀ {l : List TN} {a : TN}, l.Pairwise (fun a b => a.node < b.node) → (putL l a).Pairwise (fun a b => a.node < b.node)
  | [], a, _ => by simp [putL, isL, findL]
  | b :: l, a, h => by
    have h' := h
    rw [List.pairwise_cons] at h
    rw [putL_cons]
    by_cases h1 : b.node < a.node
    · rw [if_pos h1, List.pairwise_cons]
      refine ⟨fun t ht => ?_, putL_sorted h.2⟩
      rcases (putL_mem h.2 t).1 ht with rfl | q
      · exact h1
      · exact h.1 t q.1
    · rw [if_neg h1]
      by_cases h2 : b.node = a.node
      · rw [if_pos h2, List.pairwise_cons]
        exact ⟨fun t ht => by have := h.1 t ht; omega, h.2⟩
      · rw [if_neg h2, List.pairwise_cons]
        refine ⟨fun t ht => ?_, h'⟩
        rcases List.mem_cons.1 ht with rfl | q
        · omega
        · have := h.1 t q; omega
theorem LOk.put {l : List TN} {a : TN} (h : LOk l) (ha : attrsA ⟨#[]⟩ a.attrs = true) : LOk (putL l a) ∧ viewL (putL l a) = updV (viewL l) a.node (some ⟨a.parent, a.name, lookA a.attrs⟩) := by
  have hs := putL_sorted (a := a) h.sorted
  refine ⟨⟨hs, fun t ht => ?_⟩, ?_⟩
  · rcases (putL_mem h.sorted t).1 ht with rfl | q
    · exact ha
    · exact h.attrs t q.1
  · funext n
    have hg : getL (putL l a) n = if n = a.node then some a else getL l n := by
      by_cases e : n = a.node
      · rw [if_pos e]
        exact (getL_mem hs).2 ⟨(putL_mem h.sorted a).2 (.inl rfl), e.symm⟩
      · rw [if_neg e]
        cases hg : getL l n with
        | some t =>
          obtain ⟨q1, q2⟩ := (getL_mem h.sorted).1 hg
          exact (getL_mem hs).2 ⟨(putL_mem h.sorted t).2 (.inr ⟨q1, by omega⟩), q2⟩
        | none =>
          cases hg' : getL (putL l a) n with
          | none => rfl
          | some t =>
            obtain ⟨q1, q2⟩ := (getL_mem hs).1 hg'
            rcases (putL_mem h.sorted t).1 q1 with rfl | q
            · exact absurd q2.symm e
            · rw [(getL_mem h.sorted).2 ⟨q.1, q2⟩] at hg; cases hg
    unfold viewL updV
    rw [hg]
    by_cases e : n = a.node
    · rw [if_pos e, if_pos e]; rfl
    · rw [if_neg e, if_neg e]
theorem plain_told {l : List TN} {T : PT} {k : Nat} (h : LOk l) (hv : viewL l = T.view) (hok : T.ok k) (hg : VGood T.view) : plainL l = nodesTold T := by
  have hs2 := toldL_sorted (T := T) (nodesK_sorted hok.nod)
  have hs1 : (plainL l).Pairwise (fun a b => a.node < b.node) := h.sorted.sublist List.filter_sublist
  have nd : ∀ {l : List TN}, l.Pairwise (fun a b => a.node < b.node) → l.Nodup := fun hs => hs.imp fun {a b} hab e => by rw [e] at hab; omega
  have hat : ∀ n x, T.get n = some x → attrsA ⟨#[]⟩ (attrsOf x) = true := fun n x hx => attrsOf_ok (hok.attrs n x hx).1 fun k w h => hg.pairs n _ k w (PT.view_get hx) h
  have key : ∀ n t x, getL l n = some t → T.get n = some x → t = toldOf n x := fun n t x h1 h2 => by
    have hvn : viewL l n = T.view n := congrFun hv n
    rw [viewL, h1, PT.view_get h2] at hvn
    simp only [Option.map_some, Option.some.injEq, PN.view, AN.mk.injEq] at hvn
    obtain ⟨q1, q2, q3⟩ := hvn
    obtain ⟨m1, m2⟩ := (getL_mem h.sorted).1 h1
    obtain ⟨tn, tp, tm, ta⟩ := t
    simp only at q1 q2 q3 m2
    have : ta = attrsOf x := attrs_uniq (h.attrs _ m1) (hat n x h2) (by rw [q3]; funext j; exact (attrsOf_look x j).symm)
    rw [toldOf, ← q1, ← q2, ← m2, this]
  have hp : (plainL l).Perm (nodesTold T) := (List.perm_ext_iff_of_nodup (nd hs1) (nd hs2)).2 fun t => by
    have hsh : ∀ t : TN, 0 < t.node → (decide (t.node > 2) || decide (0 < t.attrs.length)) = t.shown := fun t ht => by
      rw [TN.shown]
      congr 1
      simp only [topB]
      by_cases h1 : t.node = 1
      · simp [h1]
      · by_cases h2 : t.node = 2
        · simp [h2]
        · rw [decide_eq_true (by omega)]; simp [h1, h2]
    constructor
    · intro ht
      obtain ⟨m1, m2⟩ := List.mem_filter.1 ht
      have hg1 := (getL_mem h.sorted).2 ⟨m1, rfl⟩
      have hvn : viewL l t.node = T.view t.node := congrFun hv _
      rw [viewL, hg1] at hvn
      obtain ⟨x, hx, _⟩ := get_of_view hvn.symm
      have e := key _ _ _ hg1 hx
      rw [e]
      refine (mem_told hx).2 ?_
      rw [← e, ← hsh t (hg.pos _ _ (PT.view_get hx))]
      exact m2
    · intro ht
      obtain ⟨n, _, x, hx, rfl⟩ := toldL_node ht
      have hvn : viewL l n = T.view n := congrFun hv n
      rw [PT.view_get hx] at hvn
      cases hg1 : getL l n with
      | none => rw [viewL, hg1] at hvn; cases hvn
      | some t =>
        have e := key _ _ _ hg1 hx
        obtain ⟨m1, _⟩ := (getL_mem h.sorted).1 hg1
        rw [e] at m1
        refine List.mem_filter.2 ⟨m1, ?_⟩
        rw [hsh _ (hg.pos _ _ (PT.view_get hx))]
        exact (mem_told hx).1 ht
  refine List.Perm.eq_of_pairwise (le := fun a b : TN => a.node < b.node) (fun a b _ _ h1 h2 => ?_) hs1 hs2 hp
  omega
end Go.Proofs.YtdpknchgoeboaaaGreat.Vc

/- The code of some functions of the program, its types resolved: printed by a program of this claim. -/
set_option linter.unusedVariables false
set_option maxRecDepth 100000
namespace Go.Proofs.YtdpknchgoeboaaaGreat.Vc
open Go Go.Proofs

abbrev f_ref12_Tree_Below : Nat := 54
def c_ref12_Tree_Below_L0 : Cd :=
 (.seq (.seq (.rg [⟨none, [(some 17, .mv (.t 8))]⟩] [0, 1, 2, 8, 17])
 (.ite (.t 17)
 .skip
 (.exit 0)))
 (.block 1 (.seq (.rg [⟨none, [(some 19, .mv (.t 0)), (some 20, .mv (.t 1)), (some 21, .call 25 [(.t 19), (.t 20)]), (some 18, .mv (.t 21)), (some 22, .ext (.t 18) 0), (some 23, .ext (.t 18) 1), (some 9, .mv (.t 22)), (some 10, .mv (.t 23))]⟩] [0, 1, 2, 8, 9, 10])
 (.seq (.seq (.rg [⟨none, [(some 24, .mv (.t 10)), (some 25, .un .not (.t 24))]⟩] [0, 1, 2, 8, 9, 25])
 (.ite (.t 25)
 (.seq (.rg [⟨none, [(some 6, .mv (.c (.bool false)))]⟩] [6])
 .ret)
 .skip))
 (.seq (.seq (.rg [⟨none, [(some 26, .mv (.t 1)), (some 27, .mv (.t 2)), (some 28, .bin .eql (.t 26) (.t 27))]⟩] [0, 2, 8, 9, 28])
 (.ite (.t 28)
 (.seq (.rg [⟨none, [(some 6, .mv (.c (.bool true)))]⟩] [6])
 .ret)
 .skip))
 (.rg [⟨none, [(some 29, .mv (.t 0)), (some 30, .nilc (.t 29)), (some 31, .fldA (.t 30) 0 0), (some 32, .ld (.t 31) 1 false), (some 33, .mv (.t 9)), (some 34, .idxS (.t 32) (.t 33) 4), (some 35, .fldA (.t 34) 1 1), (some 36, .ld (.t 35) 1 false), (some 1, .mv (.t 36))]⟩] [0, 1, 2, 8]))))))
def c_ref12_Tree_Below : Cd :=
 (.seq (.rg [⟨none, [(some 6, .mv (.c (.bool false)))]⟩] [0, 1, 2])
 (.seq (.rg [⟨none, [(some 12, .mv (.t 0)), (some 13, .mv (.t 2)), (some 14, .call 25 [(.t 12), (.t 13)]), (some 11, .mv (.t 14)), (some 15, .ext (.t 11) 0), (some 16, .ext (.t 11) 1), (some 7, .mv (.t 15)), (some 8, .mv (.t 16))]⟩] [0, 1, 2, 8])
 (.seq (.block 0 (.loop c_ref12_Tree_Below_L0))
 (.seq (.rg [⟨none, [(some 6, .mv (.c (.bool false)))]⟩] [6])
 .ret))))
theorem k_ref12_Tree_Below : Ok Tryz.prog 54 c_ref12_Tree_Below 37 [] [.tmp 6] := Ok.mk' Tryz.func54 (by kernel_rfl) (by kernel_rfl) (by kernel_rfl)

abbrev f_ref12_Tree_May : Nat := 23
def c_ref12_Tree_May : Cd :=
 (.seq (.rg [⟨none, [(some 3, .box 34 (.t 1)), (some 4, .mv (.c (.bool false)))]⟩] [0, 3])
 (.seq (.rg [⟨none, [(some 10, .mv (.t 0)), (some 11, .fldA (.t 3) 2 3), (some 12, .ld (.t 11) 1 false), (some 13, .call 25 [(.t 10), (.t 12)]), (some 9, .mv (.t 13)), (some 14, .ext (.t 9) 0), (some 15, .ext (.t 9) 1), (some 5, .mv (.t 14)), (some 6, .mv (.t 15))]⟩] [0, 3, 6])
 (.seq (.rg [⟨none, [(some 17, .mv (.t 0)), (some 18, .fldA (.t 3) 3 4), (some 19, .ld (.t 18) 1 false), (some 20, .call 25 [(.t 17), (.t 19)]), (some 16, .mv (.t 20)), (some 21, .ext (.t 16) 0), (some 22, .ext (.t 16) 1), (some 7, .mv (.t 21)), (some 8, .mv (.t 22))]⟩] [0, 3, 6, 8])
 (.seq (.seq (.rg [⟨none, [(some 23, .fldA (.t 3) 1 2), (some 24, .ld (.t 23) 1 false)]⟩] [0, 3, 6, 8, 24])
 (.block 0 (.seq (.rg [⟨none, [(some 26, .bin .eql (.t 24) (.c (.int .i64 1))), (some 25, .mv (.t 26))]⟩] [0, 3, 6, 8, 24, 25])
 (.ite (.t 25)
 (.seq (.rg [⟨none, [(some 27, .fldA (.t 3) 2 3), (some 28, .ld (.t 27) 1 false), (some 29, .bin .gtr (.t 28) (.c (.int .i64 2))), (some 30, .mv (.t 29))]⟩, ⟨some (30, true), [(some 31, .mv (.t 6)), (some 32, .un .not (.t 31))]⟩, ⟨none, [(some 33, .pick (.t 30) (.t 32) (.c (.bool false))), (some 34, .mv (.t 33))]⟩, ⟨some (34, true), [(some 35, .mv (.t 8))]⟩, ⟨none, [(some 36, .pick (.t 34) (.t 35) (.c (.bool false))), (some 37, .mv (.t 36))]⟩, ⟨some (37, true), [(some 38, .fldA (.t 3) 4 5), (some 39, .ld (.t 38) 1 false), (some 40, .call 44 [(.t 39)])]⟩, ⟨none, [(some 41, .pick (.t 37) (.t 40) (.c (.bool false))), (some 4, .mv (.t 41))]⟩] [4])
 .ret)
 (.seq (.rg [⟨none, [(some 43, .bin .eql (.t 24) (.c (.int .i64 2))), (some 42, .mv (.t 43))]⟩] [0, 3, 6, 8, 24, 42])
 (.ite (.t 42)
 (.seq (.rg [⟨none, [(some 44, .mv (.t 6)), (some 45, .mv (.t 44))]⟩, ⟨some (45, true), [(some 46, .fldA (.t 3) 2 3), (some 47, .ld (.t 46) 1 false), (some 48, .bin .gtr (.t 47) (.c (.int .i64 2)))]⟩, ⟨none, [(some 49, .pick (.t 45) (.t 48) (.c (.bool false))), (some 50, .mv (.t 49))]⟩, ⟨some (50, true), [(some 51, .mv (.t 8))]⟩, ⟨none, [(some 52, .pick (.t 50) (.t 51) (.c (.bool false))), (some 53, .mv (.t 52))]⟩, ⟨some (53, true), [(some 54, .mv (.t 0)), (some 55, .fldA (.t 3) 3 4), (some 56, .ld (.t 55) 1 false), (some 57, .fldA (.t 3) 2 3), (some 58, .ld (.t 57) 1 false), (some 59, .call 54 [(.t 54), (.t 56), (.t 58)]), (some 60, .un .not (.t 59))]⟩, ⟨none, [(some 61, .pick (.t 53) (.t 60) (.c (.bool false))), (some 62, .mv (.t 61))]⟩, ⟨some (62, true), [(some 63, .fldA (.t 3) 4 5), (some 64, .ld (.t 63) 1 false), (some 65, .call 44 [(.t 64)])]⟩, ⟨none, [(some 66, .pick (.t 62) (.t 65) (.c (.bool false))), (some 4, .mv (.t 66))]⟩] [4])
 .ret)
 (.seq (.rg [⟨none, [(some 68, .bin .eql (.t 24) (.c (.int .i64 3))), (some 67, .mv (.t 68))]⟩] [3, 6, 67])
 (.ite (.t 67)
 (.seq (.rg [⟨none, [(some 69, .mv (.t 6)), (some 70, .mv (.t 69))]⟩, ⟨some (70, true), [(some 71, .fldA (.t 3) 5 6), (some 72, .ld (.t 71) 1 false), (some 73, .bin .neq (.t 72) (.c (.string ⟨#[]⟩)))]⟩, ⟨none, [(some 74, .pick (.t 70) (.t 73) (.c (.bool false))), (some 75, .mv (.t 74))]⟩, ⟨some (75, true), [(some 76, .fldA (.t 3) 5 6), (some 77, .ld (.t 76) 1 false), (some 78, .lenS (.t 77)), (some 79, .bin .leq (.t 78) (.c (.int .i64 255)))]⟩, ⟨none, [(some 80, .pick (.t 75) (.t 79) (.c (.bool false))), (some 81, .mv (.t 80))]⟩, ⟨some (81, true), [(some 82, .fldA (.t 3) 6 7), (some 83, .ld (.t 82) 1 false), (some 84, .lenS (.t 83)), (some 85, .bin .leq (.t 84) (.c (.int .i64 255)))]⟩, ⟨none, [(some 86, .pick (.t 81) (.t 85) (.c (.bool false))), (some 4, .mv (.t 86))]⟩] [4])
 .ret)
 .skip))))))))
 (.seq (.rg [⟨none, [(some 4, .mv (.c (.bool false)))]⟩] [4])
 .ret)))))
theorem k_ref12_Tree_May : Ok Tryz.prog 23 c_ref12_Tree_May 87 [] [.tmp 4] := Ok.mk' Tryz.func23 (by kernel_rfl) (by kernel_rfl) (by kernel_rfl)

abbrev f_ref12_Tree_Do : Nat := 8
def c_ref12_Tree_Do_R12 : Cd :=
 (.seq (.gh (.rg [⟨none, [(some 61, .mv (.t 0)), (some 62, .ld (.t 5) 4 true), (some 63, .call 27 [(.t 61), (.t 62)])]⟩] []))
 (.seq (.rg [⟨none, [(some 4, .mv (.c (.bool true)))]⟩] [4])
 .ret))
def c_ref12_Tree_Do_R8 : Cd :=
 (.seq (.seq (.gh (.rg [⟨none, [(some 44, .fldA (.t 3) 1 2), (some 45, .ld (.t 44) 1 false), (some 46, .bin .eql (.t 45) (.c (.int .i64 3)))]⟩] [0, 3, 5, 46]))
 (.ite (.t 46)
 (.rg [⟨none, [(some 47, .fldA (.t 5) 3 3), (some 48, .ld (.t 47) 1 false), (some 49, .fldA (.t 3) 5 6), (some 50, .ld (.t 49) 1 false), (some 51, .fldA (.t 3) 6 7), (some 52, .ld (.t 51) 1 false), (some 53, .call 26 [(.t 48), (.t 50), (.t 52)]), (some 54, .fldA (.t 5) 3 3), (none, .st (.t 54) (.t 53) 1)]⟩] [0, 5])
 (.seq (.rg [⟨none, [(some 55, .fldA (.t 3) 3 4), (some 56, .ld (.t 55) 1 false), (some 57, .fldA (.t 5) 1 1), (none, .st (.t 57) (.t 56) 1)]⟩] [0, 3, 5])
 (.rg [⟨none, [(some 58, .fldA (.t 3) 4 5), (some 59, .ld (.t 58) 1 false), (some 60, .fldA (.t 5) 2 2), (none, .st (.t 60) (.t 59) 1)]⟩] [0, 5]))))
 c_ref12_Tree_Do_R12)
def c_ref12_Tree_Do_R4 : Cd :=
 (.seq (.gh (.rg [⟨none, [(some 26, .fldA (.t 3) 2 3), (some 27, .ld (.t 26) 1 false), (some 28, .bld (.c (.s (.int .i64 0)) (.c (.s (.int .i64 0)) (.c (.s (.string ⟨#[]⟩)) (.c (.s (.slice none 0 0)) .u)))) [(0, (.t 27))]), (some 5, .new 39 (.c (.s (.int .i64 0)) (.c (.s (.int .i64 0)) (.c (.s (.string ⟨#[]⟩)) (.c (.s (.slice none 0 0)) .u))))), (none, .st (.t 5) (.t 28) 4)]⟩] [0, 3, 5]))
 (.seq (.seq (.rg [⟨none, [(some 30, .mv (.t 0)), (some 31, .fldA (.t 3) 2 3), (some 32, .ld (.t 31) 1 false), (some 33, .call 25 [(.t 30), (.t 32)]), (some 29, .mv (.t 33)), (some 34, .ext (.t 29) 0), (some 35, .ext (.t 29) 1), (some 6, .mv (.t 34)), (some 7, .mv (.t 35))]⟩] [0, 3, 5, 6, 7])
 (.seq (.rg [⟨none, [(some 36, .mv (.t 7))]⟩] [0, 3, 5, 6, 36])
 (.ite (.t 36)
 (.rg [⟨none, [(some 37, .mv (.t 0)), (some 38, .nilc (.t 37)), (some 39, .fldA (.t 38) 0 0), (some 40, .ld (.t 39) 1 false), (some 41, .mv (.t 6)), (some 42, .idxS (.t 40) (.t 41) 4), (some 43, .ld (.t 42) 4 true), (none, .st (.t 5) (.t 43) 4)]⟩] [0, 3, 5])
 .skip)))
 c_ref12_Tree_Do_R8))
def c_ref12_Tree_Do : Cd :=
 (.seq (.rg [⟨none, [(some 3, .box 34 (.t 1)), (some 4, .mv (.c (.bool false)))]⟩] [0, 3])
 (.seq (.seq (.rg [⟨none, [(some 8, .mv (.t 0)), (some 9, .ld (.t 3) 8 true), (some 10, .call 23 [(.t 8), (.t 9)]), (some 11, .un .not (.t 10))]⟩] [0, 3, 11])
 (.ite (.t 11)
 (.seq (.rg [⟨none, [(some 4, .mv (.c (.bool false)))]⟩] [4])
 .ret)
 .skip))
 (.seq (.rga (.op ⟨none, [(some 12, .mv (.t 0))]⟩ (.op ⟨none, [(some 13, .mv (.t 0))]⟩ (.op ⟨none, [(some 14, .nilc (.t 13))]⟩ (.op ⟨none, [(some 15, .fldA (.t 14) 1 1)]⟩ (.op ⟨none, [(some 17, .mv (.t 0))]⟩ (.op ⟨none, [(some 18, .nilc (.t 17))]⟩ (.op ⟨none, [(some 19, .fldA (.t 18) 0 0)]⟩ (.or (.op ⟨none, [(some 16, .ld (.t 15) 1 false)]⟩ (.op ⟨none, [(some 20, .ld (.t 19) 1 false)]⟩ (.op ⟨none, [(some 21, .call 24 [(.t 20)])]⟩ (.op ⟨none, [(some 22, .bldS 23 1 (.s (.slice none 0 0)) [(.t 21)])]⟩ (.op ⟨none, [(some 23, .app 23 1 24 (.s (.slice none 0 0)) (.t 16) (.t 22))]⟩ (.op ⟨none, [(some 24, .nilc (.t 12))]⟩ (.op ⟨none, [(some 25, .fldA (.t 24) 1 1)]⟩ (.op ⟨none, [(none, .st (.t 25) (.t 23) 1)]⟩ .done)))))))) (.op ⟨none, [(some 20, .ld (.t 19) 1 false)]⟩ (.or (.op ⟨none, [(some 16, .ld (.t 15) 1 false)]⟩ (.op ⟨none, [(some 21, .call 24 [(.t 20)])]⟩ (.op ⟨none, [(some 22, .bldS 23 1 (.s (.slice none 0 0)) [(.t 21)])]⟩ (.op ⟨none, [(some 23, .app 23 1 24 (.s (.slice none 0 0)) (.t 16) (.t 22))]⟩ (.op ⟨none, [(some 24, .nilc (.t 12))]⟩ (.op ⟨none, [(some 25, .fldA (.t 24) 1 1)]⟩ (.op ⟨none, [(none, .st (.t 25) (.t 23) 1)]⟩ .done))))))) (.op ⟨none, [(some 21, .call 24 [(.t 20)])]⟩ (.or (.op ⟨none, [(some 16, .ld (.t 15) 1 false)]⟩ (.op ⟨none, [(some 22, .bldS 23 1 (.s (.slice none 0 0)) [(.t 21)])]⟩ (.op ⟨none, [(some 23, .app 23 1 24 (.s (.slice none 0 0)) (.t 16) (.t 22))]⟩ (.op ⟨none, [(some 24, .nilc (.t 12))]⟩ (.op ⟨none, [(some 25, .fldA (.t 24) 1 1)]⟩ (.op ⟨none, [(none, .st (.t 25) (.t 23) 1)]⟩ .done)))))) (.op ⟨none, [(some 22, .bldS 23 1 (.s (.slice none 0 0)) [(.t 21)])]⟩ (.op ⟨none, [(some 16, .ld (.t 15) 1 false)]⟩ (.op ⟨none, [(some 23, .app 23 1 24 (.s (.slice none 0 0)) (.t 16) (.t 22))]⟩ (.op ⟨none, [(some 24, .nilc (.t 12))]⟩ (.op ⟨none, [(some 25, .fldA (.t 24) 1 1)]⟩ (.op ⟨none, [(none, .st (.t 25) (.t 23) 1)]⟩ .done)))))))))))))))))) [0, 3])
 c_ref12_Tree_Do_R4)))
theorem k_ref12_Tree_Do : Ok Tryz.prog 8 c_ref12_Tree_Do 64 [(3, 999999)] [.tmp 4] := Ok.mk' Tryz.func8 (by kernel_rfl) (by kernel_rfl) (by kernel_rfl)

abbrev f_ref12_From : Nat := 15
def c_ref12_From_R8 : Cd :=
 (.gh (.rg [⟨none, [(some 79, .mv (.t 4)), (some 80, .ld (.t 6) 4 true), (some 81, .call 27 [(.t 79), (.t 80)])]⟩] [0, 4, 5]))
def c_ref12_From_L0 : Cd :=
 (.seq (.seq (.rg [⟨none, [(some 14, .mv (.t 5)), (some 15, .mv (.t 0)), (some 16, .len (.t 15)), (some 17, .bin .lss (.t 14) (.t 16))]⟩] [0, 4, 5, 17])
 (.ite (.t 17)
 .skip
 (.exit 0)))
 (.seq (.block 1 (.seq (.rg [⟨none, [(some 20, .mv (.t 0)), (some 21, .mv (.t 5)), (some 22, .idxS (.t 20) (.t 21) 4), (some 23, .ld (.t 22) 4 true), (some 6, .new 39 (.c (.s (.int .i64 0)) (.c (.s (.int .i64 0)) (.c (.s (.string ⟨#[]⟩)) (.c (.s (.slice none 0 0)) .u))))), (none, .st (.t 6) (.t 23) 4)]⟩] [0, 4, 5, 6])
 (.seq (.rg [⟨none, [(some 24, .fldA (.t 6) 0 0), (some 25, .ld (.t 24) 1 false), (some 26, .bin .eql (.t 25) (.c (.int .i64 1))), (some 27, .mv (.t 26))]⟩, ⟨some (27, false), [(some 28, .fldA (.t 6) 0 0), (some 29, .ld (.t 28) 1 false), (some 30, .bin .eql (.t 29) (.c (.int .i64 2)))]⟩, ⟨none, [(some 31, .pick (.t 27) (.c (.bool true)) (.t 30)), (some 7, .mv (.t 31))]⟩] [0, 4, 5, 6, 7])
 (.seq (.seq (.rgq [⟨none, [(some 32, .fldA (.t 6) 0 0), (some 33, .ld (.t 32) 1 false), (some 34, .bin .lss (.t 33) (.c (.int .i64 1))), (some 35, .mv (.t 34))]⟩, ⟨some (35, false), [(some 36, .mv (.t 5)), (some 37, .bin .gtr (.t 36) (.c (.int .i64 0))), (some 38, .mv (.t 37))]⟩, ⟨some (38, true), [(some 39, .fldA (.t 6) 0 0), (some 40, .ld (.t 39) 1 false), (some 41, .mv (.t 0)), (some 42, .mv (.t 5)), (some 43, .bin .sub (.t 42) (.c (.int .i64 1))), (some 44, .idxS (.t 41) (.t 43) 4), (some 45, .fldA (.t 44) 0 0), (some 46, .ld (.t 45) 1 false)]⟩] [⟨some (38, true), [(some 47, .bin .leq (.t 40) (.t 46))]⟩, ⟨some (35, false), [(some 48, .pick (.t 38) (.t 47) (.c (.bool false)))]⟩, ⟨none, [(some 49, .pick (.t 35) (.c (.bool true)) (.t 48)), (some 50, .mv (.t 49))]⟩, ⟨some (50, false), [(some 51, .fldA (.t 6) 3 3), (some 52, .ld (.t 51) 1 false), (some 53, .call 43 [(.t 52)]), (some 54, .un .not (.t 53))]⟩, ⟨none, [(some 55, .pick (.t 50) (.c (.bool true)) (.t 54)), (some 56, .mv (.t 55))]⟩, ⟨some (56, false), [(some 57, .mv (.t 7)), (some 58, .mv (.t 57))]⟩, ⟨some (58, true), [(some 59, .fldA (.t 6) 1 1), (some 60, .ld (.t 59) 1 false), (some 61, .bin .neq (.t 60) (.c (.int .i64 0))), (some 62, .mv (.t 61))]⟩, ⟨some (62, false), [(some 63, .fldA (.t 6) 2 2), (some 64, .ld (.t 63) 1 false), (some 65, .bin .neq (.t 64) (.c (.string ⟨#[]⟩)))]⟩, ⟨some (58, true), [(some 66, .pick (.t 62) (.c (.bool true)) (.t 65))]⟩, ⟨some (56, false), [(some 67, .pick (.t 58) (.t 66) (.c (.bool false)))]⟩, ⟨none, [(some 68, .pick (.t 56) (.c (.bool true)) (.t 67)), (some 69, .mv (.t 68))]⟩, ⟨some (69, false), [(some 70, .mv (.t 7)), (some 71, .un .not (.t 70)), (some 72, .mv (.t 71))]⟩, ⟨some (72, true), [(some 73, .fldA (.t 6) 2 2), (some 74, .ld (.t 73) 1 false), (some 75, .call 44 [(.t 74)]), (some 76, .un .not (.t 75))]⟩, ⟨some (69, false), [(some 77, .pick (.t 72) (.t 76) (.c (.bool false)))]⟩, ⟨none, [(some 78, .pick (.t 69) (.c (.bool true)) (.t 77))]⟩] [0, 4, 5, 6, 78])
 (.ite (.t 78)
 (.seq (.rg [⟨none, [(some 2, .mv (.c (.pointer none))), (some 3, .mv (.c (.bool false)))]⟩] [2, 3])
 .ret)
 .skip))
 c_ref12_From_R8))))
 (.rg [⟨none, [(some 18, .mv (.t 5)), (some 19, .bin .add (.t 18) (.c (.int .i64 1))), (some 5, .mv (.t 19))]⟩] [0, 4, 5])))
def c_ref12_From_L1 : Cd :=
 (.seq (.seq (.rg [⟨none, [(some 107, .mv (.t 9)), (some 108, .bin .neq (.t 107) (.c (.int .i64 1))), (some 109, .mv (.t 108))]⟩, ⟨some (109, true), [(some 110, .mv (.t 9)), (some 111, .bin .neq (.t 110) (.c (.int .i64 2)))]⟩, ⟨none, [(some 112, .pick (.t 109) (.t 111) (.c (.bool false)))]⟩] [4, 8, 9, 10, 112])
 (.ite (.t 112)
 .skip
 (.exit 4)))
 (.seq (.block 5 (.seq (.rg [⟨none, [(some 116, .mv (.t 4)), (some 117, .mv (.t 9)), (some 118, .call 25 [(.t 116), (.t 117)]), (some 115, .mv (.t 118)), (some 119, .ext (.t 115) 0), (some 120, .ext (.t 115) 1), (some 11, .mv (.t 119)), (some 12, .mv (.t 120))]⟩] [4, 8, 10, 11, 12])
 (.seq (.seq (.rg [⟨none, [(some 121, .mv (.t 12)), (some 122, .un .not (.t 121)), (some 123, .mv (.t 122))]⟩, ⟨some (123, false), [(some 124, .mv (.t 10)), (some 125, .mv (.t 4)), (some 126, .nilc (.t 125)), (some 127, .fldA (.t 126) 0 0), (some 128, .ld (.t 127) 1 false), (some 129, .len (.t 128)), (some 130, .bin .gtr (.t 124) (.t 129))]⟩, ⟨none, [(some 131, .pick (.t 123) (.c (.bool true)) (.t 130))]⟩] [4, 8, 10, 11, 131])
 (.ite (.t 131)
 (.seq (.rg [⟨none, [(some 2, .mv (.c (.pointer none))), (some 3, .mv (.c (.bool false)))]⟩] [2, 3])
 .ret)
 .skip))
 (.rg [⟨none, [(some 132, .mv (.t 4)), (some 133, .nilc (.t 132)), (some 134, .fldA (.t 133) 0 0), (some 135, .ld (.t 134) 1 false), (some 136, .mv (.t 11)), (some 137, .idxS (.t 135) (.t 136) 4), (some 138, .fldA (.t 137) 1 1), (some 139, .ld (.t 138) 1 false), (some 9, .mv (.t 139))]⟩] [4, 8, 9, 10]))))
 (.rg [⟨none, [(some 113, .mv (.t 10)), (some 114, .bin .add (.t 113) (.c (.int .i64 1))), (some 10, .mv (.t 114))]⟩] [4, 8, 9, 10])))
def c_ref12_From_L2 : Cd :=
 (.seq (.seq (.rg [⟨none, [(some 90, .mv (.t 8)), (some 91, .mv (.t 4)), (some 92, .nilc (.t 91)), (some 93, .fldA (.t 92) 0 0), (some 94, .ld (.t 93) 1 false), (some 95, .len (.t 94)), (some 96, .bin .lss (.t 90) (.t 95))]⟩] [4, 8, 96])
 (.ite (.t 96)
 .skip
 (.exit 2)))
 (.seq (.block 3 (.seq (.rg [⟨none, [(some 99, .mv (.t 4)), (some 100, .nilc (.t 99)), (some 101, .fldA (.t 100) 0 0), (some 102, .ld (.t 101) 1 false), (some 103, .mv (.t 8)), (some 104, .idxS (.t 102) (.t 103) 4), (some 105, .fldA (.t 104) 0 0), (some 106, .ld (.t 105) 1 false), (some 9, .mv (.t 106))]⟩] [4, 8, 9])
 (.seq (.rg [⟨none, [(some 10, .mv (.c (.int .i64 0)))]⟩] [4, 8, 9, 10])
 (.block 4 (.loop c_ref12_From_L1)))))
 (.rg [⟨none, [(some 97, .mv (.t 8)), (some 98, .bin .add (.t 97) (.c (.int .i64 1))), (some 8, .mv (.t 98))]⟩] [4, 8])))
def c_ref12_From : Cd :=
 (.seq (.rg [⟨none, [(some 2, .mv (.c (.pointer none))), (some 3, .mv (.c (.bool false)))]⟩] [0])
 (.seq (.rg [⟨none, [(some 13, .call 6 []), (some 4, .mv (.t 13))]⟩] [0, 4])
 (.seq (.seq (.rg [⟨none, [(some 5, .mv (.c (.int .i64 0)))]⟩] [0, 4, 5])
 (.block 0 (.loop c_ref12_From_L0)))
 (.seq (.rg [⟨none, [(some 82, .mv (.t 4)), (some 83, .mv (.t 4)), (some 84, .nilc (.t 83)), (some 85, .fldA (.t 84) 0 0), (some 86, .ld (.t 85) 1 false), (some 87, .call 24 [(.t 86)]), (some 88, .nilc (.t 82)), (some 89, .fldA (.t 88) 0 0), (none, .st (.t 89) (.t 87) 1)]⟩] [4])
 (.seq (.seq (.rg [⟨none, [(some 8, .mv (.c (.int .i64 0)))]⟩] [4, 8])
 (.block 2 (.loop c_ref12_From_L2)))
 (.seq (.rg [⟨none, [(some 140, .mv (.t 4)), (some 2, .mv (.t 140)), (some 3, .mv (.c (.bool true)))]⟩] [2, 3])
 .ret))))))
theorem k_ref12_From : Ok Tryz.prog 15 c_ref12_From 141 [(7, 15)] [.tmp 2, .tmp 3] := Ok.mk' Tryz.func15 (by kernel_rfl) (by kernel_rfl) (by kernel_rfl)

end Go.Proofs.YtdpknchgoeboaaaGreat.Vc

/- The document's tree: the guard. -/
set_option linter.unusedVariables false
set_option linter.unusedSimpArgs false
set_option maxRecDepth 100000
namespace Go.Proofs.YtdpknchgoeboaaaGreat.Vc
open Go Go.Proofs

def belowV (v : Int → Option AN) : Nat → Int → Int → Bool
  | 0, _, _ => false
  | f + 1, n, a => if n = a then true else match v n with
    | none => false
    | some x => if topB n = true then false else belowV v f x.parent a
theorem belowA_V {T : PT} : ∀ (f : Nat) (n a : Int), belowA T f n a = belowV T.view f n a
  | 0, _, _ => rfl
  | f + 1, n, a => by
    unfold belowA belowV
    cases h : T.get n with
    | none => rw [PT.view_none.2 h]
    | some x =>
      rw [PT.view_get h]
      simp only
      rw [belowA_V f]
      rfl
theorem belowV_none {v : Int → Option AN} {f : Nat} {n a : Int} (h : v n = none) (ha : v a ≠ none) : belowV v f n a = false := by
  cases f with
  | zero => rfl
  | succ f =>
    rw [belowV, if_neg (fun e => ha (by rw [← e]; exact h)), h]

theorem rBelow_spec (w : World) (A m : PH) (hm : m.le w) (b : Nat) (l : List TN) (ls : List (List TN)) (h : RM A m b l ls) (hL : LOk l) (hg : VGood (viewL l)) (n a : Int) (f0 : Nat) (hf : ∀ k, LeadsN (viewL l) k n → k < f0) (hl : l.length ≤ 1099511627776) :
    Spec Tryz.prog f_ref12_Tree_Below [ptr b, .int .i64 n, .int .i64 a] PH.no w fun rs _ => rs = [.s (.bool (isL l a && belowV (viewL l) f0 n a))] := by
  refine spec_val k_ref12_Tree_Below (Qf := fun rs => rs = [.s (.bool (isL l a && belowV (viewL l) f0 n a))]) [.g (.s (ptr b)), .g (.s (.int .i64 n)), .g (.s (.int .i64 a))] (by simp) (by simp [AV.ok, GV.ok, Value.oneCell', ptr]) ?_
  obtain ⟨b2, o2, c, ts, hlts, h0, hts, _, hs0, hsi⟩ := h.look
  have hk : ∀ {l : List PH}, KN (⟨Tryz.prog, 37, w, PH.no⟩ : Ctx).u0 l m := kn_u hm
  have hfind : ∀ (w' : World) (n : Int), (⟨Tryz.prog, 37, w, PH.no⟩ : Ctx).u0.le w' → Spec Tryz.prog f_ref12_Tree_find [ptr b, .int .i64 n] PH.no w' fun rs _ => rs = [.s (.int .i64 (findL l n)), .s (.bool (isL l n))] := fun w' n hw =>
    find_spec w' A m (fun b o h => hw b o (by rw [u0_no]; exact hm b o h)) b l ls h n (by omega)
  simp (maxSteps := 2000000) only [c_ref12_Tree_Below, vc_seq, vc_rg, thenQ_n, kKeep_eq, segs_nil, segs_n, ops_nil, ops_cons, vcOp, ev, look, put_mk, keep_mk, keepL, Value.oneCell', cond_true, Nat.reduceEqDiff, Nat.reduceAdd, ↓reduceIte, reduceCtorEq, Nat.zero_add, initF, initP, Int.reduceAdd, ptr]
  refine call_is _ [.s (.int .i64 (findL l a)), .s (.bool (isL l a))] rfl rfl (fun w' vs hv hw => ?_) ?_
  · obtain ⟨vs, rfl, _, hv⟩ := argsV_g hv
    obtain ⟨vs, rfl, _, hv⟩ := argsV_g hv
    obtain rfl := argsV_nil hv
    intro _
    exact hfind w' a hw
  simp (maxSteps := 2000000) only [retS, List.getElem?_cons_zero, List.getElem?_cons_succ, vc_seq, vc_block, thenQ_n, kKeep_eq, segs_nil, ops_nil, ops_cons, vcOp, ev, look, put_mk, keep_mk, keepL, Nat.reduceEqDiff, ↓reduceIte, reduceCtorEq]
  refine vc_loop (ι := Int × Nat × Nat) (fun q => ⟨[(0, .g (.s (.pointer (some ⟨b, 0, none⟩)))), (1, .g (.s (.int .i64 (q.1)))), (2, .g (.s (.int .i64 (a)))), (8, .g (.s (.bool (isL l a))))], [], [], PH.no⟩)
    (fun q => (isL l a = true → belowV (viewL l) f0 n a = belowV (viewL l) q.2.2 q.1 a) ∧ ((viewL l q.1 = none ∧ q.2.1 = 0) ∨ ∃ k, q.2.1 = k + 1 ∧ viewL l q.1 ≠ none ∧ LeadsN (viewL l) k q.1) ∧ q.2.1 ≤ q.2.2) (fun q => q.2.1)
    (n, (if h : viewL l n = none then 0 else Classical.choose (hg.led n h) + 1), f0) ⟨fun _ => rfl, ?_, ?_⟩ (ge_of ?_ ?_ rfl rfl rfl) ?_
  · simp only
    by_cases hn : viewL l n = none
    · exact .inl ⟨hn, by rw [dif_pos hn]⟩
    · exact .inr ⟨_, by rw [dif_neg hn], hn, Classical.choose_spec (hg.led n hn)⟩
  · simp only
    split
    · omega
    · rename_i hn
      exact hf _ (Classical.choose_spec (hg.led n hn))
  · simp [frIn, look]
  · simp [pvIn, look]
  rintro ⟨x, k', f⟩ ⟨hb, hx, hkf⟩
  simp only at hb hx hkf
  generalize hQ : loopQ _ _ _ _ _ = Q
  simp (maxSteps := 2000000) only [c_ref12_Tree_Below_L0, vc_skip, vc_exit, vc_seq, vc_block, vc_rg, vc_ite, thenQ_n, thenQ_e, kKeep_eq, segs_nil, segs_n, ops_nil, ops_cons, vcOp, ev, look, put_mk, keep_mk, keepL, Nat.reduceEqDiff, ↓reduceIte, reduceCtorEq, br_t]
  refine ⟨fun his => ?_, fun hno => ?_⟩
  · have ha : viewL l a ≠ none := by rw [isL_view] at his; exact Option.isSome_iff_ne_none.1 his
    have hb := hb his
    refine call_is _ [.s (.int .i64 (findL l x)), .s (.bool (isL l x))] rfl rfl (fun w' vs hv hw => ?_) ?_
    · obtain ⟨vs, rfl, _, hv⟩ := argsV_g hv
      obtain ⟨vs, rfl, _, hv⟩ := argsV_g hv
      obtain rfl := argsV_nil hv
      intro _
      exact hfind w' x hw
    simp (maxSteps := 2000000) only [retS, List.getElem?_cons_zero, List.getElem?_cons_succ, vc_skip, vc_ret, vc_seq, vc_rg, vc_ite, thenQ_n, thenQ_r, blockQ_r, kKeep_eq, segs_nil, segs_n, ops_nil, ops_cons, vcOp, ev, look, put_mk, keep_mk, keepL, binV, binC, unV, Value.oneCell', cond_true, Nat.reduceEqDiff, ↓reduceIte, reduceCtorEq, Nat.add_zero, Bool.true_and, true_and, br_t]
    refine ⟨fun h1 => ?_, fun h1 => ⟨fun h2 => ?_, fun h2 => ?_⟩⟩
    · have hxn : viewL l x = none := by
        rw [Bool.not_eq_true', isL_view] at h1
        exact Option.isSome_eq_false_iff.1 h1 |> Option.isNone_iff_eq_none.1
      subst hQ
      simp (maxSteps := 2000000) only [thenQ_r, blockQ_r, loopQ_r, look, ↓reduceIte, finW_r, resL, resOne, ne_eq]
      rw [hb, belowV_none hxn ha, Bool.and_false]
    · have hxa : x = a := by simpa using h2
      have hk1 : 1 ≤ k' := by
        rcases hx with ⟨h3, _⟩ | ⟨k, h3, _⟩
        · rw [hxa] at h3; exact absurd h3 ha
        · omega
      obtain ⟨f', rfl⟩ : ∃ f', f = f' + 1 := ⟨f - 1, by omega⟩
      rw [belowV, if_pos hxa] at hb
      subst hQ
      simp (maxSteps := 2000000) only [thenQ_r, blockQ_r, loopQ_r, look, ↓reduceIte, finW_r, resL, resOne, ne_eq]
      rw [hb, his]; rfl
    · have hxa : x ≠ a := by simpa using h2
      rw [Bool.not_eq_false', isL_get] at h1
      obtain ⟨t, ht⟩ := Option.isSome_iff_exists.1 h1
      obtain ⟨hlt, hgd⟩ := getL_at ht
      have hvx : viewL l x = some ⟨t.parent, t.name, lookA t.attrs⟩ := by rw [viewL, ht]; rfl
      obtain ⟨k, hk', _, hled⟩ : ∃ k, k' = k + 1 ∧ viewL l x ≠ none ∧ LeadsN (viewL l) k x := by
        rcases hx with ⟨h3, _⟩ | h3
        · rw [hvx] at h3; cases h3
        · exact h3
      obtain ⟨f', rfl⟩ : ∃ f', f = f' + 1 := ⟨f - 1, by omega⟩
      rw [belowV, if_neg hxa, hvx] at hb
      simp only at hb
      refine ld_of _ (hs0 hk) rfl ?_
      simp (maxSteps := 2000000) only [ops_cons, vcOp, ev, look, put_mk, Nat.reduceEqDiff, ↓reduceIte, reduceCtorEq, Int.toNat_natCast]
      refine ⟨⟨by omega, by omega⟩, ld_of _ (seen_TN (hsi hk _ hlt)).2.1 rfl ?_⟩
      simp (maxSteps := 2000000) only [blockQ_n, kKeep_eq, segs_nil, ops_nil, ops_cons, vcOp, ev, look, put_mk, keep_mk, keepL, Nat.reduceEqDiff, ↓reduceIte, reduceCtorEq]
      have hpar : (ts.getD (findL l x) zTreeNode).parent = t.parent := by rw [(hts.at _ (by omega)).2.1, hgd]
      rw [hpar]
      cases htop : topB x with
      | true =>
        have hp0 : t.parent = 0 := (hg.top x _ hvx htop).1
        have hv0 : viewL l 0 = none := by
          cases h0 : viewL l 0 with
          | none => rfl
          | some y => have := hg.pos 0 y h0; omega
        subst hQ; simp only [loopQ_n]; refine ⟨(t.parent, 0, f'), ?_, ?_, ge_of ?_ ?_ rfl rfl rfl⟩
        · refine ⟨fun _ => ?_, .inl ⟨by simp only; rw [hp0]; exact hv0, rfl⟩, by simp only; omega⟩
          simp only
          rw [hb, if_pos htop, hp0, belowV_none hv0 ha]
        · simp only; omega
        · simp [frIn, look]
        · simp [pvIn, look]
      | false =>
        cases k with
        | zero => rw [show topB x = true from hled] at htop; cases htop
        | succ k =>
          obtain ⟨_, y, hy1, hy2⟩ := hled
          rw [hvx] at hy1
          cases hy1
          have hy2 : LeadsN (viewL l) k t.parent := hy2
          have hvp : viewL l t.parent ≠ none := by
            cases k with
            | zero =>
              rcases topB_iff.1 (show topB t.parent = true from hy2) with e | e <;> rw [e]
              · exact hg.one
              · exact hg.two
            | succ k => obtain ⟨_, z, hz, _⟩ := hy2; rw [hz]; simp
          subst hQ; simp only [loopQ_n]; refine ⟨(t.parent, k + 1, f'), ?_, ?_, ge_of ?_ ?_ rfl rfl rfl⟩
          · refine ⟨fun _ => ?_, .inr ⟨k, rfl, hvp, hy2⟩, by simp only; omega⟩
            simp only
            rw [hb, htop, if_neg (by simp)]
          · simp only; omega
          · simp [frIn, look]
          · simp [pvIn, look]
  · subst hQ
    simp (maxSteps := 2000000) only [vc_ret, vc_seq, vc_rg, thenQ_n, blockQ_e, kKeep_eq, loopQ_e, segs_nil, segs_n, ops_nil, ops_cons, vcOp, ev, look, put_mk, keep_mk, keepL, Value.oneCell', cond_true, ↓reduceIte, finW_r, resL, resOne, ne_eq]
    rw [hno]; rfl

theorem isL_has {l : List TN} {T : PT} (hv : viewL l = T.view) (n : Int) : isL l n = T.has n := by
  rw [isL_view, hv, PT.has, PT.view]
  cases T.get n <;> rfl
theorem rMay_spec (w : World) (A m : PH) (hm : m.le w) (b : Nat) (l : List TN) (ls : List (List TN)) (h : RM A m b l ls) (hL : LOk l) (T : PT) (hv : viewL l = T.view) (hg : VGood T.view) (op : Op) (hl : l.length ≤ 1099511627776) (hb : op.name.size ≤ 140737488355328) :
    Spec Tryz.prog f_ref12_Tree_May [ptr b, (gOp op).val] PH.no w fun rs _ => rs = [.s (.bool (mayA T op))] := by
  refine spec_val k_ref12_Tree_May (Qf := fun rs => rs = [.s (.bool (mayA T op))]) [.g (.s (ptr b)), .g (gOp op)] (by simp) (by simp [AV.ok, GV.ok, Value.oneCell', ptr, gOp_ok]) ?_
  have hw' : ∀ {w' : World}, (⟨Tryz.prog, 87, w, PH.no⟩ : Ctx).u0.le w' → m.le w' := fun hw b o h => hw b o (by rw [u0_no]; exact hm b o h)
  have hfind : ∀ (w' : World) (n : Int), (⟨Tryz.prog, 87, w, PH.no⟩ : Ctx).u0.le w' → Spec Tryz.prog f_ref12_Tree_find [ptr b, .int .i64 n] PH.no w' fun rs _ => rs = [.s (.int .i64 (findL l n)), .s (.bool (T.has n))] := fun w' n hw => by
    have := find_spec w' A m (hw' hw) b l ls h n (by omega)
    rw [isL_has hv] at this
    exact this
  simp (maxSteps := 2000000) only [c_ref12_Tree_May, vc_seq, vc_rg, thenQ_n, kKeep_eq, segs_nil, segs_n, ops_nil, ops_cons, vcOp, ev, look, updL, put_mk, keep_mk, keepL, GV.getT, Value.oneCell', cond_true, Nat.reduceEqDiff, ↓reduceIte, reduceCtorEq, List.nil_append, Nat.zero_add, Bool.true_and, Bool.not_false, true_and, initF, initP, getT_nil, fits_s, gOp_fld2, gOp_get2, ptr]
  refine call_is _ [.s (.int .i64 (findL l op.node)), .s (.bool (T.has op.node))] rfl rfl (fun w' vs hv hw => ?_) ?_
  · obtain ⟨vs, rfl, _, hv⟩ := argsV_g hv
    obtain ⟨vs, rfl, _, hv⟩ := argsV_g hv
    obtain rfl := argsV_nil hv
    intro _
    exact hfind w' op.node hw
  simp (maxSteps := 2000000) only [retS, List.getElem?_cons_zero, List.getElem?_cons_succ, vc_seq, vc_rg, thenQ_n, kKeep_eq, segs_nil, segs_n, ops_nil, ops_cons, vcOp, ev, look, put_mk, keep_mk, keepL, GV.getT, Nat.reduceEqDiff, ↓reduceIte, reduceCtorEq, List.nil_append, Bool.true_and, Bool.not_false, true_and, getT_nil, fits_s, gOp_fld3, gOp_get3]
  refine call_is _ [.s (.int .i64 (findL l op.parent)), .s (.bool (T.has op.parent))] rfl rfl (fun w' vs hv hw => ?_) ?_
  · obtain ⟨vs, rfl, _, hv⟩ := argsV_g hv
    obtain ⟨vs, rfl, _, hv⟩ := argsV_g hv
    obtain rfl := argsV_nil hv
    intro _
    exact hfind w' op.parent hw
  simp (maxSteps := 2000000) only [retS, List.getElem?_cons_zero, List.getElem?_cons_succ, vc_skip, vc_ret, vc_seq, vc_block, vc_rg, vc_ite, thenQ_n, thenQ_r, blockQ_n, blockQ_r, kKeep_eq, segs_nil, segs_n, segs_g, ops_nil, ops_cons, vcOp, RO.isGh, skip_mk, skipL, ev, look, put_mk, keep_mk, keepL, binV, binC, unV, GV.getT, Value.oneCell', cond_true, cond_false, Nat.reduceEqDiff, ↓reduceIte, reduceCtorEq, List.nil_append, Bool.true_and, Bool.not_true, Bool.not_false, true_and, finW_r, resL, resOne, decide_eq_true_eq, decide_eq_false_iff_not, ↓br_tt, ↓br_ft, br_t, getT_nil, fits_s, gOp_fld1, gOp_get1, gOp_fld2, gOp_get2, gOp_fld3, gOp_get3, gOp_fld4, gOp_get4, gOp_fld5, gOp_get5, gOp_fld6, gOp_get6]
  have hname : FnV Tryz.prog f_ref12_Name [.s (.string op.name)] [.s (.bool (nameB op.name))] := by
    have := ref_Name_fn op.name.data.toList (by simpa using hb)
    exact this
  refine ⟨fun k1 => ?_, fun k1 => ⟨fun k2 => ?_, fun k2 => ⟨fun k3 => ?_, fun k3 => ?_⟩⟩⟩
  · rw [beq_iff_eq] at k1
    have e : mayA T op = (decide (op.node > 2) && !T.has op.node && T.has op.parent && nameB op.name) := by rw [mayA, if_pos k1]
    rw [e]
    refine ⟨fun a1 => ⟨fun a2 => ⟨fun a3 => ?_, fun a3 => ?_⟩, fun a2 => ?_⟩, fun a1 => ?_⟩
    · refine call_fnv hname rfl rfl rfl fun _ => ?_
      simp (maxSteps := 2000000) only [retS, vc_ret, thenQ_n, thenQ_r, blockQ_r, kKeep_eq, segs_nil, segs_n, ops_nil, ops_cons, vcOp, ev, look, put_mk, keep_mk, keepL, Value.oneCell', cond_true, Nat.reduceEqDiff, ↓reduceIte, finW_r, resL, resOne, ↓br_tt]
      rw [decide_eq_true a1, a2, a3]; rfl
    · rw [a3, Bool.and_false]; rfl
    · rw [a2, Bool.and_false]; rfl
    · rw [decide_eq_false a1]; rfl
  · rw [beq_eq_false_iff_ne] at k1
    rw [beq_iff_eq] at k2
    have e : mayA T op = (T.has op.node && !topB op.node && T.has op.parent && !T.below op.parent op.node && nameB op.name) := by rw [mayA, if_neg k1, if_pos k2]
    rw [e]
    have htop : T.has op.node = true → topB op.node = decide (op.node ≤ 2) := fun hh => by
      have hpos : 0 < op.node := by
        have := has_iff.1 hh
        obtain ⟨x, hx⟩ := Option.ne_none_iff_exists'.1 this
        exact hg.pos _ _ hx
      simp only [topB]
      by_cases q1 : op.node = 1
      · simp [q1]
      · by_cases q2 : op.node = 2
        · simp [q2]
        · rw [decide_eq_false (by omega)]; simp [q1, q2]
    refine ⟨fun a1 => ⟨fun a2 => ⟨fun a3 => ?_, fun a3 => ?_⟩, fun a2 => ?_⟩, fun a1 => ?_⟩
    · have hbel : (isL l op.node && belowV (viewL l) (T.nodes.length + 1) op.parent op.node) = T.below op.parent op.node := by
        rw [isL_has hv, a1, Bool.true_and, hv, PT.below, belowA_V]
      refine call_is _ [.s (.bool (T.below op.parent op.node))] rfl rfl (fun w' vs hvv hw => ?_) ?_
      · obtain ⟨vs, rfl, _, hvv⟩ := argsV_g hvv
        obtain ⟨vs, rfl, _, hvv⟩ := argsV_g hvv
        obtain ⟨vs, rfl, _, hvv⟩ := argsV_g hvv
        obtain rfl := argsV_nil hvv
        intro _
        have := rBelow_spec w' A m (hw' hw) b l ls h hL (by rw [hv]; exact hg) op.parent op.node (T.nodes.length + 1) (fun k hk => by rw [hv] at hk; have := hk.few; omega) hl
        rw [hbel] at this
        exact this
      simp (maxSteps := 2000000) only [retS, vc_ret, thenQ_n, thenQ_r, blockQ_r, kKeep_eq, segs_nil, segs_n, segs_g, ops_nil, ops_cons, vcOp, RO.isGh, skip_mk, skipL, ev, look, put_mk, keep_mk, keepL, unV, GV.getT, Value.oneCell', cond_true, cond_false, Nat.reduceEqDiff, ↓reduceIte, reduceCtorEq, List.nil_append, Bool.true_and, Bool.not_true, Bool.not_false, true_and, finW_r, resL, resOne, ↓br_tt, ↓br_ft, br_t, getT_nil, fits_s, gOp_fld4, gOp_get4]
      rw [htop a1, decide_eq_false (show ¬ op.node ≤ 2 by omega), a1, a3]
      refine ⟨fun a4 => ?_, fun a4 => by rw [a4]; rfl⟩
      refine call_fnv hname rfl rfl rfl fun _ => ?_
      simp (maxSteps := 2000000) only [retS, vc_ret, thenQ_n, thenQ_r, blockQ_r, kKeep_eq, segs_nil, segs_n, ops_nil, ops_cons, vcOp, ev, look, put_mk, keep_mk, keepL, Value.oneCell', cond_true, Nat.reduceEqDiff, ↓reduceIte, Bool.and_true, Bool.true_and, Bool.not_false, true_and, and_true, finW_r, resL, resOne, ↓br_tt]
      rw [a4]; rfl
    · rw [a3, Bool.and_false]; rfl
    · rw [htop a1, decide_eq_true (show op.node ≤ 2 by omega), Bool.not_true, Bool.and_false]; rfl
    · rw [a1]; rfl
  · rw [beq_eq_false_iff_ne] at k1 k2
    rw [beq_iff_eq] at k3
    have e : mayA T op = (T.has op.node && pairB op.key op.value) := by rw [mayA, if_neg k1, if_neg k2, if_pos k3]
    rw [e]
    have hpr : pairB op.key op.value = (!decide (op.key = ⟨#[]⟩) && decide (op.key.size ≤ 255) && decide (op.value.size ≤ 255)) := rfl
    refine ⟨fun a1 => ⟨fun a2 => ⟨fun a3 => ?_, fun a3 => ?_⟩, fun a2 => ?_⟩, fun a1 => by rw [a1]; rfl⟩
    · rw [a1, hpr, a2, decide_eq_true (show op.key.size ≤ 255 by omega)]
      simp
      omega
    · rw [a1, hpr, decide_eq_false (show ¬ op.key.size ≤ 255 by omega)]
      simp
    · rw [hpr, a2]; simp
  · rw [beq_eq_false_iff_ne] at k1 k2 k3
    rw [mayA, if_neg k1, if_neg k2, if_neg k3]
end Go.Proofs.YtdpknchgoeboaaaGreat.Vc

/- The document's tree: an operation done. -/
set_option linter.unusedVariables false
set_option linter.unusedSimpArgs false
set_option maxRecDepth 100000
namespace Go.Proofs.YtdpknchgoeboaaaGreat.Vc
open Go Go.Proofs

theorem uni_lc {a b c : PH} (h : dis a b) : uni a (uni b c) = uni b (uni a c) := by rw [← uni_assoc, uni_comm h, uni_assoc]
theorem one_upd' (r : Nat) (a b : Obj) : (one r a).upd r b = one r b := by
  funext j
  by_cases h : j = r
  · subst h; simp [PH.upd, one]
  · simp [PH.upd, one, h]
def opX (l : List TN) (op : Op) : TN := (getL l op.node).getD ⟨op.node, 0, ⟨#[]⟩, []⟩
def opN (l : List TN) (op : Op) : TN := if op.kind = 3 then { opX l op with attrs := setL (opX l op).attrs op.key op.value } else { opX l op with parent := op.parent, name := op.name }
def doL (l : List TN) (op : Op) : List TN := putL l (opN l op)

theorem rDo_spec (w : World) (m : PH) (b : Nat) (l : List TN) (ls : List (List TN)) (h : RC m b l ls) (hL : LOk l) (T : PT) (hv : viewL l = T.view) (hg : VGood T.view) (op : Op) (hb : op.name.size ≤ 140737488355328) (hl : l.length ≤ 549755813888) (hls : ls.length ≤ 1099511627776) (ha : ∀ t ∈ l, t.attrs.length ≤ 549755813888) :
    Spec Tryz.prog f_ref12_Tree_Do [ptr b, (gOp op).val] m w fun rs m' => (mayA T op = false → rs = [.s (.bool false)] ∧ RC m' b l ls) ∧ (mayA T op = true → rs = [.s (.bool true)] ∧ RC m' b (doL l op) (ls ++ [l])) := by
  refine spec_of k_ref12_Tree_Do [.g (.s (ptr b)), .g (gOp op)] (by simp) (by simp [AV.ok, GV.ok, Value.oneCell', ptr, gOp_ok]) ?_
  simp (maxSteps := 2000000) only [c_ref12_Tree_Do, vc_seq, vc_rg, thenQ_n, kKeep_eq, segs_nil, segs_n, ops_nil, ops_cons, vcOp, ev, look, updL, put_mk, keep_mk, keepL, Value.oneCell', cond_true, Nat.reduceEqDiff, ↓reduceIte, reduceCtorEq, Nat.zero_add, Bool.true_and, true_and, initF, initP, getT_nil, gOp_fits, ptr]
  refine call_ism _ [.s (.bool (mayA T op))] rfl rfl (fun w' vs hvv _ _ hm => ?_) ?_
  · obtain ⟨vs, rfl, _, hvv⟩ := argsV_g hvv
    obtain ⟨vs, rfl, _, hvv⟩ := argsV_g hvv
    obtain rfl := argsV_nil hvv
    obtain ⟨m1, A, rfl, hd, hR⟩ := h
    exact rMay_spec w' A m1 (fun b o q => hm b o (sub_uni_l _ _ b o q)) b l ls hR hL T hv hg op (by omega) hb
  simp (maxSteps := 2000000) only [retS, vc_skip, vc_ret, vc_seq, vc_rg, vc_rga, vc_ite, thenQ_n, thenQ_r, kKeep_eq, finQ_r, segs_nil, segs_n, ops_nil, ops_cons, ot_op, ot_or, vcOp, ev, look, put_mk, keep_mk, keepL, unV, Value.oneCell', cond_true, Nat.reduceEqDiff, ↓reduceIte, reduceCtorEq, Nat.zero_add, Nat.add_zero, br_t]
  cases hmay : mayA T op with
  | false =>
    simp (maxSteps := 2000000) only [Bool.and_true, Bool.not_false, and_true, true_imp_iff, false_imp_iff, Bool.true_eq_false, Bool.false_eq_true]
    exact fin_m m rfl (fun _ _ h => h) ⟨rfl, h⟩
  | true =>
    simp (maxSteps := 2000000) only [Bool.true_and, Bool.not_true, true_and, true_imp_iff, false_imp_iff, Bool.true_eq_false, Bool.false_eq_true]
    have tail4 : ∀ m2 : PH, RC m2 b l (ls ++ [l]) → ∀ σ : SS, Ge σ ⟨[(0, .g (.s (.pointer (some ⟨b, 0, none⟩)))), (3, .ref 3 [])], [(3, .box (gOp op))], [], m2⟩ →
        vc ⟨Tryz.prog, 64, w, m⟩ c_ref12_Tree_Do_R4 (finQ ⟨Tryz.prog, 64, w, m⟩ [.tmp 4] fun rs m' => rs = [.s (.bool true)] ∧ RC m' b (doL l op) (ls ++ [l])) σ := by
      intro m2 hR2 σ hσ
      obtain ⟨m1, A, rfl, hd, hR⟩ := hR2
      have hxn : (opX l op).node = op.node := by
        unfold opX
        cases hgl : getL l op.node with
        | none => rfl
        | some x => exact ((getL_mem hL.sorted).1 hgl).2
      have tail12 : ∀ (A2 : PH) (t1 : TreeNode), dis m1 A2 → RM A2 m1 b l (ls ++ [l]) → t1.node = (opN l op).node ∧ t1.parent = (opN l op).parent ∧ t1.name = (opN l op).name ∧ SlR A2 t1.attrs 2 ((opN l op).attrs.map gAttr) → ∀ σ : SS, Ge σ ⟨[(0, .g (.s (.pointer (some ⟨b, 0, none⟩)))), (5, .ref 5 [])], [(5, .box (gTreeNode t1))], [], uni m1 A2⟩ →
          vc ⟨Tryz.prog, 64, w, m⟩ c_ref12_Tree_Do_R12 (finQ ⟨Tryz.prog, 64, w, m⟩ [.tmp 4] fun rs m' => rs = [.s (.bool true)] ∧ RC m' b (doL l op) (ls ++ [l])) σ := by
        intro A2 t1 hd2 hRM ht1 σ hσ
        unfold c_ref12_Tree_Do_R12
        rw [vc_seq]
        refine vc_gh_of_ge hσ ?_
        simp (maxSteps := 2000000) only [vc_rg, segs_n, ops_cons, vcOp, ev, look, put_mk, Nat.reduceEqDiff, ↓reduceIte, reduceCtorEq, Bool.true_and, true_and, getT_nil, gTreeNode_fits]
        refine call_with m1 A2 (dOk_spec rfl) rfl rfl hd2 (Q := fun rs m' => rs = [] ∧ RM A2 m' b (putL l (opN l op)) (ls ++ [l])) (fun w' vs hvv _ _ => ?_) fun rs m4 _ hq hd4 => ?_
        · obtain ⟨vs, rfl, _, hvv⟩ := argsV_g hvv
          obtain ⟨vs, rfl, _, hvv⟩ := argsV_g hvv
          obtain rfl := argsV_nil hvv
          exact rput_spec w' A2 m1 b l (ls ++ [l]) hRM t1 (opN l op) ht1 (by omega)
        obtain ⟨rfl, h4⟩ := hq
        simp (maxSteps := 2000000) only [retS, vc_ret, vc_seq, vc_rg, thenQ_n, kKeep_eq, finQ_r, segs_nil, segs_n, ops_nil, ops_cons, vcOp, ev, look, put_mk, keep_mk, keepL, Value.oneCell', cond_true, ↓reduceIte]
        exact fin_m _ rfl (fun _ _ h => h) ⟨rfl, m4, A2, rfl, hd4, h4⟩
      have tail8 : ∀ t0 : TreeNode, t0.node = (opX l op).node ∧ t0.parent = (opX l op).parent ∧ t0.name = (opX l op).name ∧ SlR A t0.attrs 2 ((opX l op).attrs.map gAttr) → ∀ σ : SS, Ge σ ⟨[(0, .g (.s (.pointer (some ⟨b, 0, none⟩)))), (3, .ref 3 []), (5, .ref 5 [])], [(3, .box (gOp op)), (5, .box (gTreeNode t0))], [], uni m1 A⟩ →
          vc ⟨Tryz.prog, 64, w, m⟩ c_ref12_Tree_Do_R8 (finQ ⟨Tryz.prog, 64, w, m⟩ [.tmp 4] fun rs m' => rs = [.s (.bool true)] ∧ RC m' b (doL l op) (ls ++ [l])) σ := by
        intro t0 ht0 σ hσ
        unfold c_ref12_Tree_Do_R8
        rw [vc_seq, vc_seq]
        refine vc_gh_of_ge hσ ?_
        simp (maxSteps := 2000000) only [vc_seq, vc_rg, vc_ite, thenQ_n, kKeep_eq, segs_nil, segs_n, ops_nil, ops_cons, vcOp, ev, look, updL, put_mk, put_mk0, keep_mk, keepL, binV, binC, GV.getT, GV.sz, GV.same, Value.oneCell', cond_true, Nat.reduceEqDiff, ↓reduceIte, reduceCtorEq, List.nil_append, Bool.and_true, Bool.true_and, Bool.not_false, true_and, and_true, br_t, same_int, getT_nil, fits_s, gOp_fld1, gOp_get1, gOp_fld3, gOp_get3, gOp_fld4, gOp_get4, gOp_fld5, gOp_get5, gOp_fld6, gOp_get6, gTreeNode_fld1, gTreeNode_get1, gTreeNode_set1, gTreeNode_fld2, gTreeNode_get2, gTreeNode_set2, gTreeNode_fld3, gTreeNode_get3]
        refine ⟨fun k3 => ?_, fun k3 => ?_⟩
        · rw [beq_iff_eq] at k3
          have hal : (opX l op).attrs.length ≤ 549755813888 := by
            unfold opX
            cases hgl : getL l op.node with
            | none => simp
            | some x => exact ha x ((getL_mem hL.sorted).1 hgl).1
          refine call_ownm rfl rfl (Q := fun rs m' => ∃ v', rs = [.s v'] ∧ SlO m' v' 41 2 ((setL (opX l op).attrs op.key op.value).map gAttr)) (fun w' vs hvv _ _ hm => ?_) fun rs ms _ hq hds => ?_
          · obtain ⟨vs, rfl, _, hvv⟩ := argsV_g hvv
            obtain ⟨vs, rfl, _, hvv⟩ := argsV_g hvv
            obtain ⟨vs, rfl, _, hvv⟩ := argsV_g hvv
            obtain rfl := argsV_nil hvv
            exact set_spec w' t0.attrs (opX l op).attrs op.key op.value A (fun b o q => hm b o (sub_uni_r hd b o q)) ht0.2.2.2 (by omega)
          obtain ⟨v', rfl, hs'⟩ := hq
          simp (maxSteps := 2000000) only [retS, thenQ_n, kKeep_eq, segs_nil, ops_nil, ops_cons, vcOp, ev, look, updL, put_mk, put_mk0, keep_mk, keepL, GV.getT, GV.sz, GV.same, Nat.reduceEqDiff, ↓reduceIte, reduceCtorEq, List.nil_append, Bool.and_true, Bool.true_and, true_and, and_true, getT_nil, gTreeNode_fld3, gTreeNode_get3, gTreeNode_set3]
          obtain ⟨hds1, hds2⟩ := dis_of_uni_r hds
          refine tail12 (uni ms A) { t0 with attrs := v' } (dis_uni_r (dis_comm hds1) hd) (hR.up (sub_uni_r hds2)) ?_ _ (ge_of (by simp [frIn, look]) (by simp [pvIn, look]) rfl rfl (by show uni m1 (uni ms A) = uni ms (uni m1 A); rw [uni_lc hds1]))
          unfold opN
          rw [if_pos k3]
          exact ⟨ht0.1, ht0.2.1, ht0.2.2.1, hs'.toR.up (sub_uni_l _ _)⟩
        · rw [beq_eq_false_iff_ne] at k3
          refine tail12 A { t0 with parent := op.parent, name := op.name } hd hR ?_ _ (ge_of (by simp [frIn, look]) (by simp [pvIn, look]) rfl rfl rfl)
          unfold opN
          rw [if_neg k3]
          exact ⟨ht0.1, rfl, rfl, ht0.2.2.2⟩
      unfold c_ref12_Tree_Do_R4
      rw [vc_seq]
      refine vc_gh_of_ge hσ ?_
      simp (maxSteps := 2000000) only [vc_seq, vc_rg, thenQ_n, kKeep_eq, segs_nil, segs_n, ops_nil, ops_cons, vcOp, ev, evL, gvL, look, updL, put_mk, put_mk0, keep_mk, keepL, GV.getT, Nat.reduceEqDiff, ↓reduceIte, reduceCtorEq, List.nil_append, Bool.and_true, Bool.true_and, Bool.not_false, true_and, and_true, List.map_cons, List.map_nil, Option.map_some, GV.bldT, GV.bldC, same_int, getT_nil, setT_nil, fits_s, gOp_fld2, gOp_get2, gTreeNode_sz, gTreeNode_same, gTreeNode_get0, gTreeNode_set0, gTreeNode_zero]
      refine ⟨rfl, ?_⟩
      refine call_ism _ [.s (.int .i64 (findL l op.node)), .s (.bool (isL l op.node))] rfl rfl (fun w' vs hvv _ _ hm => ?_) ?_
      · obtain ⟨vs, rfl, _, hvv⟩ := argsV_g hvv
        obtain ⟨vs, rfl, _, hvv⟩ := argsV_g hvv
        obtain rfl := argsV_nil hvv
        exact find_spec w' A m1 (fun b o q => hm b o (sub_uni_l _ _ b o q)) b l _ hR op.node (by omega)
      simp (maxSteps := 2000000) only [retS, List.getElem?_cons_zero, List.getElem?_cons_succ, vc_skip, vc_seq, vc_rg, vc_ite, thenQ_n, kKeep_eq, segs_nil, segs_n, ops_nil, ops_cons, vcOp, ev, look, put_mk, keep_mk, keepL, Nat.reduceEqDiff, ↓reduceIte, reduceCtorEq, Nat.add_zero, br_t]
      obtain ⟨b2, o2, c, ts, hlts, h0, hts, _, hs0, hsi⟩ := hR.look
      have hk1 : ∀ {C : Ctx}, KN C.u0 [uni m1 A] m1 := fun {C} j o q => .inr ⟨uni m1 A, by simp, sub_uni_l _ _ j o q⟩
      refine ⟨fun his => ?_, fun hno => ?_⟩
      · rw [isL_get] at his
        obtain ⟨x, hx⟩ := Option.isSome_iff_exists.1 his
        obtain ⟨hlt, hgd⟩ := getL_at hx
        have hxe : opX l op = x := by unfold opX; rw [hx]; rfl
        refine ld_of _ (hs0 hk1) rfl ?_
        simp (maxSteps := 2000000) only [ops_cons, vcOp, ev, look, put_mk, Nat.reduceEqDiff, ↓reduceIte, reduceCtorEq, Int.toNat_natCast]
        refine ⟨⟨by omega, by omega⟩, ld_of _ (hsi hk1 _ hlt) (gTreeNode_fits _) ?_⟩
        simp (maxSteps := 2000000) only [thenQ_n, kKeep_eq, segs_nil, ops_nil, ops_cons, vcOp, ev, look, updL, put_mk, put_mk0, keep_mk, keepL, Nat.reduceEqDiff, ↓reduceIte, reduceCtorEq, Bool.and_true, Bool.true_and, true_and, and_true, getT_nil, setT_nil, gTreeNode_sz, gTreeNode_same]
        refine tail8 (ts.getD (findL l op.node) zTreeNode) ?_ _ (ge_of (by simp [frIn, look]) (by simp [pvIn, look]) rfl rfl rfl)
        have := hts.at (findL l op.node) (by omega)
        rw [hgd] at this
        rw [hxe]; exact this
      · rw [isL_get] at hno
        have hx : getL l op.node = none := Option.isNone_iff_eq_none.1 (by rw [← Option.not_isSome, hno]; rfl)
        refine tail8 ⟨op.node, 0, ⟨#[]⟩, .slice none 0 0⟩ ?_ _ (ge_of (by simp [frIn, look]) (by simp [pvIn, look]; rfl) rfl rfl rfl)
        unfold opX
        rw [hx]
        exact ⟨rfl, rfl, rfl, SlR.nil _ _⟩
    obtain ⟨m1, A, rfl, hd, hR⟩ := h
    obtain ⟨nv, wv, e, mn, mw, mo, ts, vs, rfl, p⟩ := hR
    have hlts := p.told.len
    have hvls := p.olds.len
    obtain ⟨d1, d2, d3, hrows, htold, hne, hwas, holds⟩ := p
    generalize hc : one b (.cells #[nv, wv] e (0, 0)) = oc at *
    obtain ⟨d1n, d1r⟩ := dis_of_uni_r d1
    obtain ⟨d1w, d1o⟩ := dis_of_uni_r d1r
    obtain ⟨d2w, d2o⟩ := dis_of_uni_r d2
    obtain ⟨dAc, dAr⟩ := dis_of_uni_r (dis_comm hd)
    obtain ⟨dAn, dAr⟩ := dis_of_uni_r dAr
    obtain ⟨dAw, dAo⟩ := dis_of_uni_r dAr
    have hoc : oc b = some (.cells #[nv, wv] e (0, 0)) := by rw [← hc]; exact one_self _ _
    have sc0 : PH.sub oc (uni (uni oc (uni mn (uni mw mo))) A) := PH.sub_trans (sub_uni_l _ _) (sub_uni_l _ _)
    have nv1 : nv.oneCell' = true := by rcases hrows.2 with ⟨rfl, _⟩ | ⟨ad, c, rfl, _⟩ <;> rfl
    have wv1 : wv.oneCell' = true := by rcases hwas.2 with ⟨rfl, _⟩ | ⟨ad, c, rfl, _⟩ <;> rfl
    have seen : ∀ {C : Ctx} {m' : PH}, PH.sub oc m' → Seen C [] m' b 0 (.s nv) ∧ Seen C [] m' b 1 (.s wv) := fun {C m'} hs =>
      ⟨seen_cell (u := oc) (fun j o h => .inr ⟨m', by simp, hs j o h⟩) hoc rfl nv1, seen_cell (u := oc) (fun j o h => .inr ⟨m', by simp, hs j o h⟩) hoc rfl wv1⟩
    have hclone : ∀ w' : World, (uni (uni oc (uni mn (uni mw mo))) A).le w' → Spec Tryz.prog f_ref12_clone [nv] PH.no w' fun rs m' => ∃ v mc ma ts', rs = [.s v] ∧ m' = uni mc ma ∧ dis mc ma ∧ SlO mc v 39 4 (ts'.map gTreeNode) ∧ TsOk ma ts' l := fun w' hm => by
      have s1 : PH.sub mn w'.ph := fun b o q => hm b o (sub_uni_l _ _ _ _ (sub_uni_r d1 _ _ (sub_uni_l _ _ b o q)))
      have s2 : PH.sub A w'.ph := fun b o q => hm b o (sub_uni_r hd b o q)
      exact clone_spec w' nv ts l w'.ph (fun _ _ h => h) (hrows.toR.up s1) (htold.up s2) (by omega) fun t ht => by have := ha t ht; omega
    -- the memory, the list of what was taken out of it
    have out : ∀ (mc ma : PH), dis (uni mc ma) (uni (uni oc (uni mn (uni mw mo))) A) → uni (uni mc ma) (uni (uni oc (uni mn (uni mw mo))) A) = uni mw (uni (uni mc ma) (uni (uni oc (uni mn mo)) A)) ∧ dis mw (uni (uni mc ma) (uni (uni oc (uni mn mo)) A)) := by
      intro mc ma hX
      obtain ⟨hX1, hXA⟩ := dis_of_uni_r hX
      obtain ⟨hXc, hX2⟩ := dis_of_uni_r hX1
      obtain ⟨hXn, hX3⟩ := dis_of_uni_r hX2
      obtain ⟨hXw, hXo⟩ := dis_of_uni_r hX3
      refine ⟨?_, dis_uni_r (dis_comm hXw) (dis_uni_r (dis_uni_r (dis_comm d1w) (dis_uni_r (dis_comm d2w) d3)) (dis_comm dAw))⟩
      rw [uni_lc d2w, uni_lc d1w, uni_assoc mw, uni_lc hXw]
    have close : ∀ (mc ma u' : PH) (v v' : Value) (ts' : List TreeNode), dis (uni mc ma) (uni (uni oc (uni mn (uni mw mo))) A) → dis mc ma → SlO mc v 39 4 (ts'.map gTreeNode) → TsOk ma ts' l → SlO u' v' 23 1 (vs.map GV.s ++ [.s v]) → dis u' (uni (uni mc ma) (uni (uni oc (uni mn mo)) A)) →
        (uni u' (uni (uni mc ma) (uni (uni oc (uni mn mo)) A))) b = some (.cells #[nv, wv] e (0, 0)) ∧ RC ((uni u' (uni (uni mc ma) (uni (uni oc (uni mn mo)) A))).upd b (.cells #[nv, v'] e (0, 0))) b l (ls ++ [l]) := by
      intro mc ma u' v v' ts' hX hcm hs1 hs2 hs3 hU
      obtain ⟨hX1, hXA⟩ := dis_of_uni_r hX
      obtain ⟨hXc, hX2⟩ := dis_of_uni_r hX1
      obtain ⟨hXn, hX3⟩ := dis_of_uni_r hX2
      obtain ⟨hXw, hXo⟩ := dis_of_uni_r hX3
      obtain ⟨cc, ca⟩ := dis_of_uni_r (dis_comm hXc)
      obtain ⟨nc, na⟩ := dis_of_uni_r (dis_comm hXn)
      obtain ⟨oc', oa⟩ := dis_of_uni_r (dis_comm hXo)
      obtain ⟨Ac, Aa⟩ := dis_of_uni_r (dis_comm hXA)
      obtain ⟨hU1, hU2⟩ := dis_of_uni_r hU
      obtain ⟨hUc, hUa⟩ := dis_of_uni_r hU1
      obtain ⟨hU3, hUA⟩ := dis_of_uni_r hU2
      obtain ⟨hUo, hU4⟩ := dis_of_uni_r hU3
      obtain ⟨hUn, hUm⟩ := dis_of_uni_r hU4
      have hub : u' b = none := (hUo b).resolve_right (by rw [hoc]; simp)
      have hxb : (uni mc ma) b = none := (hXc b).resolve_right (by rw [hoc]; simp)
      refine ⟨by simp only [uni] at hxb ⊢; rw [hub, Option.none_or, hxb, Option.none_or, hoc]; rfl, ?_⟩
      rw [uni_upd hub, uni_upd hxb, uni_upd_l, uni_upd_l]
      have hoc2 : oc.upd b (.cells #[nv, v'] e (0, 0)) = one b (.cells #[nv, v'] e (0, 0)) := by rw [← hc, one_upd']
      rw [hoc2]
      have dn : ∀ {x : PH}, dis oc x → dis (one b (.cells #[nv, v'] e (0, 0))) x := fun hx => by rw [← hc] at hx; exact dis_one_of hx
      have v1 : v.oneCell' = true := by rcases hs1.2 with ⟨rfl, _⟩ | ⟨ad, c, rfl, _⟩ <;> rfl
      have hsubA : PH.sub A (uni ma A) := sub_uni_r (dis_comm Aa)
      refine ⟨uni (one b (.cells #[nv, v'] e (0, 0))) (uni mn (uni u' (uni mo mc))), uni ma A, ?_, ?_, nv, v', e, mn, u', uni mo mc, ts, vs ++ [v], rfl, ⟨?_, ?_, ?_, hrows, htold.up hsubA, hne, ?_, ?_⟩⟩
      · simp only [uni_assoc]
        rw [uni_lc (dis_comm (dn ca)), uni_lc (dis_comm (dn cc)), uni_lc (dis_comm (dn (dis_comm hUo))), uni_lc (dis_comm na), uni_lc (dis_comm nc), uni_lc hUn, uni_lc (dis_comm oa), uni_lc (dis_comm oc')]
      · refine dis_uni_l (dis_uni_r (dn ca) (dn (dis_comm dAc))) (dis_uni_l (dis_uni_r na (dis_comm dAn)) (dis_uni_l (dis_uni_r hUa hUA) (dis_uni_l (dis_uni_r oa (dis_comm dAo)) (dis_uni_r hcm (dis_comm Ac)))))
      · exact dis_uni_r (dn d1n) (dis_uni_r (dn (dis_comm hUo)) (dis_uni_r (dn d1o) (dn cc)))
      · exact dis_uni_r (dis_comm hUn) (dis_uni_r d2o nc)
      · exact dis_uni_r hUm hUc
      · rw [List.map_append]; exact hs3
      · exact (holds.up hsubA).snoc v1 hs1 (hs2.up (sub_uni_l _ _)) hne (dis_comm oc')
    repeat' (first
      | (refine ld_of _ (seen sc0).1 rfl ?_; simp (maxSteps := 2000000) only [segs_nil, segs_n, ops_nil, ops_cons, ot_op, ot_or, vcOp, ev, look, put_mk, Nat.reduceEqDiff, ↓reduceIte])
      | (refine ld_of _ (seen sc0).2 rfl ?_; simp (maxSteps := 2000000) only [segs_nil, segs_n, ops_nil, ops_cons, ot_op, vcOp, ev, look, put_mk, Nat.reduceEqDiff, ↓reduceIte])
      | (refine ld_of _ (seen (PH.sub_trans sc0 (sub_uni_r hdX))).2 rfl ?_; simp (maxSteps := 2000000) only [segs_nil, segs_n, ops_nil, ops_cons, ot_op, vcOp, ev, evL, gvL, look, updL, put_mk, rowE, GV.sz, Nat.reduceEqDiff, ↓reduceIte, Nat.zero_add, Bool.and_true, Bool.true_and, true_and, and_true, Option.map_some, szAll, List.length_cons, List.length_nil, List.drop_zero, List.take_succ_cons, List.take_zero])
      | (refine call_ownm rfl rfl (Q := fun rs m' => ∃ v mc ma ts', rs = [.s v] ∧ m' = uni mc ma ∧ dis mc ma ∧ SlO mc v 39 4 (ts'.map gTreeNode) ∧ TsOk ma ts' l) (fun w' vs hv hw _ hm => by obtain ⟨vs, rfl, _, hv⟩ := argsV_g hv; obtain rfl := argsV_nil hv; exact hclone w' hm) fun rs mX _ hq hdX => ?_; obtain ⟨v, mc, ma, ts', rfl, rfl, hcm, hs1, hs2⟩ := hq; simp (maxSteps := 2000000) only [retS, segs_nil, segs_n, ops_nil, ops_cons, ot_op, ot_or, vcOp, ev, evL, gvL, look, updL, put_mk, rowE, GV.sz, Nat.reduceEqDiff, ↓reduceIte, Nat.zero_add, Bool.and_true, Bool.true_and, true_and, and_true, Option.map_some, szAll, List.length_cons, List.length_nil, List.drop_zero, List.take_succ_cons, List.take_zero])
      | refine And.intro ?_ ?_)
    all_goals
      obtain ⟨o1, o2⟩ := out mc ma hdX
      refine app_of rfl rfl mw (uni (uni mc ma) (uni (uni oc (uni mn mo)) A)) (vs.map GV.s) hwas o1 o2 (by simp only [List.length_map, List.length_cons, List.length_nil]; omega) fun v' u' hv' hs' hd' => ?_
      simp (maxSteps := 2000000) only [segs_nil, segs_n, ops_nil, ops_cons, ot_op, vcOp, ev, look, put_mk, Nat.reduceEqDiff, ↓reduceIte, Nat.zero_add]
      obtain ⟨c1, c2⟩ := close mc ma u' v v' ts' hdX hcm hs1 hs2 hs' hd'
      refine st_of rfl #[nv, wv] e ⟨c1, by simp⟩ ?_
      simp (maxSteps := 2000000) only [thenQ_n, kKeep_eq, segs_nil, ops_nil, ot_done, look, put_mk0, keep_mk, keepL, Nat.reduceEqDiff, ↓reduceIte, reduceCtorEq]
      exact tail4 _ c2 _ (ge_of (by simp [frIn, look]) (by simp [pvIn, look]) rfl rfl rfl)
end Go.Proofs.YtdpknchgoeboaaaGreat.Vc

/- The document's lists: what was done is seen; a tree of rows: plain. -/
set_option linter.unusedVariables false
set_option linter.unusedSimpArgs false
namespace Go.Proofs.YtdpknchgoeboaaaGreat.Vc
open Go

theorem doL_view {l : List TN} {T : PT} {op : Op} {k : Nat} (hL : LOk l) (hv : viewL l = T.view) (hok : T.ok k) (hg : VGood T.view) (hm : mayA T op = true) : LOk (doL l op) ∧ viewL (doL l op) = (T.does op).view := by
  by_cases k1 : op.kind = 1
  · obtain ⟨hn, _⟩ := may_make hm k1
    have hx : getL l op.node = none := by
      have : viewL l op.node = none := by rw [hv]; exact PT.view_none.2 hn
      unfold viewL at this
      cases hg : getL l op.node with
      | none => rfl
      | some x => rw [hg] at this; cases this
    have hN : opN l op = ⟨op.node, op.parent, op.name, []⟩ := by unfold opN opX; rw [if_neg (by omega), hx]; rfl
    obtain ⟨h1, h2⟩ := hL.put (a := opN l op) (by rw [hN]; rfl)
    refine ⟨h1, ?_⟩
    show viewL (putL l (opN l op)) = _
    rw [h2, hN, does_view1 hm k1, hv]
    rfl
  · obtain ⟨x, hx⟩ := may_there hm k1
    have hvn : viewL l op.node = some x.view := by rw [hv]; exact PT.view_get hx
    obtain ⟨t, ht⟩ : ∃ t, getL l op.node = some t := by
      unfold viewL at hvn
      cases hg : getL l op.node with
      | none => rw [hg] at hvn; cases hvn
      | some t => exact ⟨t, rfl⟩
    obtain ⟨hm1, hm2⟩ := (getL_mem hL.sorted).1 ht
    have hta := hL.attrs t hm1
    have hX : opX l op = t := by unfold opX; rw [ht]; rfl
    rw [viewL, ht] at hvn
    simp only [Option.map_some, Option.some.injEq, PN.view, AN.mk.injEq] at hvn
    obtain ⟨q1, q2, q3⟩ := hvn
    by_cases k2 : op.kind = 2
    · have hN : opN l op = { t with parent := op.parent, name := op.name } := by unfold opN; rw [if_neg (by omega), hX]
      obtain ⟨h1, h2⟩ := hL.put (a := opN l op) (by rw [hN]; exact hta)
      refine ⟨h1, ?_⟩
      show viewL (putL l (opN l op)) = _
      rw [h2, hN, does_view2 hx k2, hv]
      simp only
      rw [hm2, q3]
    · have k3 : op.kind = 3 := by
        rw [mayA, if_neg k1, if_neg k2] at hm
        split at hm
        · assumption
        · cases hm
      have hp : pairB op.key op.value = true := by
        rw [mayA, if_neg k1, if_neg k2, if_pos k3] at hm
        simp only [Bool.and_eq_true] at hm; exact hm.2
      have hkey : (⟨#[]⟩ : ByteArray).data.toList < op.key.data.toList := by
        have : op.key ≠ ⟨#[]⟩ := fun e => by rw [e] at hp; simp [pairB] at hp
        cases hk : op.key.data.toList with
        | nil => exact absurd (ByteArray.ext (Array.toList_inj.1 hk)) this
        | cons a l => simp
      have hN : opN l op = { t with attrs := setL t.attrs op.key op.value } := by unfold opN; rw [if_pos k3, hX]
      have hok' := setL_ok hp _ _ hta hkey
      obtain ⟨h1, h2⟩ := hL.put (a := opN l op) (by rw [hN]; exact hok')
      refine ⟨h1, ?_⟩
      show viewL (putL l (opN l op)) = _
      rw [h2, hN, does_view3 hx (hok.attrs _ _ hx).1 k1 k2, hv]
      simp only
      rw [hm2, q1, q2]
      congr 3
      funext j
      rw [setL, setL_look _ _ hta j, q3]

/-! ### A tree of rows -/
def okR : Int → List TN → Bool
  | _, [] => true
  | last, r :: l => rowA last r && attrsA ⟨#[]⟩ r.attrs && okR r.node l
theorem rowsA_okR : ∀ {l : List TN} {T : PT} {last : Int}, (∃ T', rowsA T last l = some T') ↔ okR last l = true
  | [], T, last => ⟨fun _ => rfl, fun _ => ⟨T, rfl⟩⟩
  | r :: l, T, last => by
    rw [rowsA, okR]
    cases hb : rowA last r && attrsA ⟨#[]⟩ r.attrs with
    | false => simp
    | true => rw [if_pos rfl, Bool.true_and]; exact rowsA_okR
theorem fromA_iff {l : List TN} : fromA l ↔ okR 0 l = true ∧ ∀ n, viewOf l n ≠ none → ∃ k, LeadsN (viewOf l) k n := by
  unfold fromA
  constructor
  · rintro ⟨T, h1, h2⟩
    have hv := (rowsA_rowed h1).view
    refine ⟨rowsA_okR.1 ⟨T, h1⟩, ?_⟩
    rw [← hv]; exact h2
  · rintro ⟨h1, h2⟩
    obtain ⟨T, hT⟩ := rowsA_okR (T := T0).2 h1
    refine ⟨T, hT, ?_⟩
    have hv := (rowsA_rowed hT).view
    unfold PT.led
    rw [hv]; exact h2
theorem okR_each : ∀ {l : List TN} {last : Int}, okR last l = true → l.Pairwise (fun a b => a.node < b.node) ∧ ∀ r ∈ l, last < r.node ∧ attrsA ⟨#[]⟩ r.attrs = true
  | [], _, _ => ⟨List.Pairwise.nil, by simp⟩
  | r :: l, last, h => by
    rw [okR, Bool.and_eq_true, Bool.and_eq_true] at h
    obtain ⟨⟨h1, h2⟩, h3⟩ := h
    have hl := rowA_last h1
    obtain ⟨i1, i2⟩ := okR_each h3
    refine ⟨List.pairwise_cons.2 ⟨fun q hq => (i2 q hq).1, i1⟩, fun q hq => ?_⟩
    rcases List.mem_cons.1 hq with rfl | hq
    · exact ⟨hl, h2⟩
    · obtain ⟨j1, j2⟩ := i2 q hq
      exact ⟨by omega, j2⟩
def rowV (r : TN) : AN := ⟨r.parent, r.name, lookA r.attrs⟩
def rowsL (l : List TN) : List TN := l.foldl putL T0L
def viewF (v : Int → Option AN) : List TN → Int → Option AN
  | [] => v
  | r :: l => viewF (updV v r.node (some (rowV r))) l
theorem viewF_none : ∀ {l : List TN} {v : Int → Option AN} {n : Int}, (∀ r ∈ l, r.node ≠ n) → viewF v l n = v n
  | [], _, _, _ => rfl
  | r :: l, v, n, h => by
    rw [viewF, viewF_none fun q hq => h q (by simp [hq]), updV_ne (fun e => h r (by simp) e.symm)]
theorem viewF_of : ∀ {l : List TN} {v : Int → Option AN} {r : TN}, l.Pairwise (fun a b => a.node < b.node) → r ∈ l → viewF v l r.node = some (rowV r)
  | [], _, _, _, h => by simp at h
  | q :: l, v, r, h, hr => by
    rw [List.pairwise_cons] at h
    rw [viewF]
    rcases List.mem_cons.1 hr with rfl | hr
    · rw [viewF_none fun x hx => by have := h.1 x hx; omega, updV_eq]
    · exact viewF_of h.2 hr
theorem T0L_ok : LOk T0L := ⟨by simp [T0L], fun t ht => by simp [T0L] at ht; rcases ht with rfl | rfl <;> rfl⟩
theorem T0L_view : viewL T0L = T0.view := by
  funext n
  unfold viewL T0L
  rw [getL_cons, getL_cons]
  have hnil : getL [] n = none := by simp [getL, isL]
  rw [hnil]
  simp only
  by_cases h1 : n = 1
  · subst h1; rfl
  · by_cases h2 : n = 2
    · subst h2; rfl
    · have h0 : T0.view n = none := by
        rw [PT.view_none]
        show getA _ _ = none
        simp [T0, getA, Ne.symm h1, Ne.symm h2]
      rw [h0]
      by_cases q1 : (1 : Int) < n
      · rw [if_pos q1]
        by_cases q2 : (2 : Int) < n
        · rw [if_pos q2]; rfl
        · rw [if_neg q2, if_neg (Ne.symm h2)]; rfl
      · rw [if_neg q1, if_neg (Ne.symm h1)]; rfl
theorem putL_len (l : List TN) (a : TN) : (putL l a).length ≤ l.length + 1 := by
  unfold putL
  split
  · simp
  · have := findL_le l a.node
    simp only [List.length_append, List.length_take, List.length_cons, List.length_drop]; omega
theorem putL_ne (l : List TN) (a : TN) : putL l a ≠ [] := by
  unfold putL
  split
  · rename_i h
    rw [isL] at h
    intro e
    have := congrArg List.length e
    simp only [List.length_set, List.length_nil] at this
    rw [List.length_eq_zero_iff.1 this] at h
    simp at h
  · simp
theorem foldl_put : ∀ {l b : List TN}, LOk b → (∀ r ∈ l, attrsA ⟨#[]⟩ r.attrs = true) → LOk (l.foldl putL b) ∧ viewL (l.foldl putL b) = viewF (viewL b) l
  | [], b, h, _ => ⟨h, rfl⟩
  | r :: l, b, h, ha => by
    obtain ⟨h1, h2⟩ := h.put (a := r) (ha r (by simp))
    obtain ⟨i1, i2⟩ := foldl_put (l := l) h1 fun q hq => ha q (by simp [hq])
    exact ⟨i1, by rw [List.foldl_cons, i2, h2]; rfl⟩
theorem rowsL_view {l : List TN} (h : okR 0 l = true) : LOk (rowsL l) ∧ viewL (rowsL l) = viewOf l := by
  obtain ⟨h1, h2⟩ := okR_each h
  obtain ⟨i1, i2⟩ := foldl_put (l := l) T0L_ok fun r hr => (h2 r hr).2
  refine ⟨i1, ?_⟩
  show viewL (l.foldl putL T0L) = _
  rw [i2, T0L_view]
  funext n
  by_cases hn : ∃ r ∈ l, r.node = n
  · obtain ⟨r, hr, rfl⟩ := hn
    rw [viewF_of h1 hr, viewOf, rowGet_of h1 hr]
    simp only [Option.map_some, Option.some.injEq, rowV, rowN, PN.view, AN.mk.injEq, true_and]
    funext j
    rw [laidA_get (h2 r hr).2]
  · have hn' : ∀ r ∈ l, r.node ≠ n := fun r hr e => hn ⟨r, hr, e⟩
    rw [viewF_none hn', viewOf, rowGet_none hn']
    rfl
theorem LeadsN.fewL {l : List TN} (hL : LOk l) {k : Nat} {n : Int} (h : LeadsN (viewL l) k n) : k ≤ l.length := by
  obtain ⟨ns, e1, e2, e3, _⟩ := h.way
  have := nodup_len (b := l.map (·.node)) e2 fun m hm => by
    have := e3 m hm
    unfold viewL at this
    cases hg : getL l m with
    | none => rw [hg] at this; simp at this
    | some t =>
      obtain ⟨q1, q2⟩ := (getL_mem hL.sorted).1 hg
      exact List.mem_map.2 ⟨t, q1, q2⟩
  simpa [e1] using this
end Go.Proofs.YtdpknchgoeboaaaGreat.Vc

/- The document's tree of rows: the walk. -/
set_option linter.unusedVariables false
set_option linter.unusedSimpArgs false
set_option maxRecDepth 100000
namespace Go.Proofs.YtdpknchgoeboaaaGreat.Vc
open Go Go.Proofs

theorem rFrom_spec (w : World) (va : Value) (ts : List TreeNode) (l : List TN) (u : PH) (hu : u.le w) (ha : SlR u va 4 (ts.map gTreeNode)) (hts : TsOk u ts l) (hn : l.length ≤ 549755813888) (hat : ∀ r ∈ l, r.attrs.length ≤ 549755813888)
    (hsz : ∀ r ∈ l, ∀ a ∈ r.attrs, a.key.size ≤ 140737488355328 ∧ a.value.size ≤ 140737488355328) (hnm : ∀ r ∈ l, r.name.size ≤ 140737488355328) :
    Spec Tryz.prog f_ref12_From [va] PH.no w fun rs m' => (fromA l → ∃ b, rs = [.s (ptr b), .s (.bool true)] ∧ RC m' b (rowsL l) []) ∧ (¬ fromA l → rs = [.s (.pointer none), .s (.bool false)]) := by
  refine spec_of k_ref12_From [.ro va 4 (gTreeNode zTreeNode) (ts.map gTreeNode)] (by simp) (by simpa [AV.ok, u0_no] using ha.up hu.sub) ?_
  have hlts := hts.len
  simp (maxSteps := 2000000) only [c_ref12_From, vc_seq, vc_rg, thenQ_n, kKeep_eq, segs_nil, segs_n, ops_nil, ops_cons, vcOp, ev, look, put_mk, keep_mk, keepL, Value.oneCell', cond_true, ↓reduceIte, reduceCtorEq, initF, initP, List.length_map, ptr, List.length_map]
  refine call_ownm rfl rfl (Q := fun rs m' => ∃ b, rs = [.s (ptr b)] ∧ RM u m' b T0L []) (fun w' vs hv hw _ _ => ?_) fun rs m1 _ hq _ => ?_
  · obtain rfl := argsV_nil hv
    exact rNew_spec w' u
  obtain ⟨b, rfl, hR0⟩ := hq
  simp (maxSteps := 2000000) only [retS, uni_no_r, vc_seq, vc_block, vc_rg, thenQ_n, kKeep_eq, segs_nil, segs_n, ops_nil, ops_cons, vcOp, ev, look, put_mk, keep_mk, keepL, Value.oneCell', cond_true, Nat.reduceEqDiff, ↓reduceIte, reduceCtorEq, ptr]
  refine vc_loop (ι := Nat × PH) (fun q => ⟨[(0, .row 0 0 (ts.length)), (4, .g (.s (.pointer (some ⟨b, 0, none⟩)))), (5, .g (.s (.int .i64 (q.1))))], [(0, .ro 4 (gTreeNode zTreeNode) (ts.map gTreeNode))], [], q.2⟩)
    (fun q => q.1 ≤ ts.length ∧ RM u q.2 b (rowsL (l.take q.1)) [] ∧ okR 0 l = okR (if q.1 = 0 then 0 else (l.getD (q.1 - 1) zTN).node) (l.drop q.1) ∧ (0 < q.1 → 0 < (l.getD (q.1 - 1) zTN).node) ∧ (rowsL (l.take q.1)).length ≤ q.1 + 2) (fun q => ts.length - q.1) (0, m1) ⟨by simp, hR0, rfl, fun h => absurd h (by simp), by simp [rowsL, T0L]⟩ (ge_of ?_ ?_ rfl rfl rfl) ?_
  · simp [frIn, look]
  · simp [pvIn, look]
  rintro ⟨i, mA⟩ ⟨hi, hR, hok, hpos, hlen⟩
  simp only at hi hR hok hpos hlen
  generalize hQ : loopQ _ _ _ _ _ = Q
  simp (maxSteps := 2000000) only [c_ref12_From_L0, vc_skip, vc_ret, vc_exit, vc_seq, vc_block, vc_rg, vc_rgq, vc_ite, thenQ_n, thenQ_r, thenQ_e, blockQ_r, kKeep_eq, segs_nil, segs_n, segs_g, ops_nil, ops_cons, qsegs_nil, qsegs_n, qsegs_g, qops_nil, qops_cons, vcqOp, vcOp, isRd, RO.isGh, skip_mk, skipL, ev, look, updL, put_mk, put_mk0, keep_mk, keepL, rowE, rowD, binV, binC, GV.getT, Value.oneCell', cond_true, cond_false, Nat.reduceEqDiff, ↓reduceIte, reduceCtorEq, List.nil_append, Nat.zero_add, Bool.and_true, Bool.true_and, Bool.not_true, Bool.not_false, true_and, and_true, Int.toNat_natCast, decide_eq_true_eq, decide_eq_false_iff_not, ↓br_tt, ↓br_ff, ↓br_tf, ↓br_ft, br_t, br_f, getT_nil, setT_nil, fits_s, gTreeNode_sz, gTreeNode_fits, gTreeNode_same, gTreeNode_fld0, gTreeNode_get0, gTreeNode_fld3, gTreeNode_get3, gTreeNode_zero, getD_gTreeNode]
  refine ⟨fun hlt => ⟨⟨by omega, by omega⟩, ?_⟩, fun hge => ?_⟩
  · obtain ⟨t, ht⟩ : ∃ t, ts.getD i zTreeNode = t := ⟨_, rfl⟩
    obtain ⟨r, hr⟩ : ∃ r, l.getD i zTN = r := ⟨_, rfl⟩
    have hrm : r ∈ l := by rw [← hr, List.getD_eq_getElem?_getD, List.getElem?_eq_getElem (by omega)]; exact List.getElem_mem _
    obtain ⟨e1, e2, e3, hsl⟩ := hts.at i (by omega)
    rw [ht, hr] at e1 e2 e3 hsl
    have hdrop : l.drop i = r :: l.drop (i + 1) := by
      rw [← hr, List.getD_eq_getElem?_getD, List.getElem?_eq_getElem (by omega)]
      exact List.drop_eq_getElem_cons (by omega)
    have htake : l.take (i + 1) = l.take i ++ [r] := by
      rw [List.take_add_one, ← hr, List.getD_eq_getElem?_getD, List.getElem?_eq_getElem (by omega)]; rfl
    rw [hdrop, okR] at hok
    rw [ht]
    obtain ⟨last, hla⟩ : ∃ last, last = (if i = 0 then 0 else (l.getD (i - 1) zTN).node) := ⟨_, rfl⟩
    rw [← hla] at hok
    have nofrom : (rowA last r && attrsA ⟨#[]⟩ r.attrs) = false → ¬ fromA l := fun hb h => by
      have := (fromA_iff.1 h).1
      rw [hok, hb] at this; cases this
    have hra : rowA last r = (!decide (t.node ≤ last) && (topB t.node == (decide (t.parent = 0) && decide (t.name = ⟨#[]⟩))) && (topB t.node || nameB t.name)) := by rw [e1, e2, e3]; rfl
    have hnb : t.name.size ≤ 140737488355328 := by rw [e3]; exact hnm r hrm
    have hal := hat r hrm
    have good : rowA last r = true → attrsA ⟨#[]⟩ r.attrs = true → ∀ σ : SS, Ge σ ⟨[(0, .row 0 0 (ts.length)), (4, .g (.s (.pointer (some ⟨b, 0, none⟩)))), (5, .g (.s (.int .i64 (i)))), (6, .ref 6 [])], [(0, .ro 4 (gTreeNode zTreeNode) (ts.map gTreeNode)), (6, .box (gTreeNode t))], [], mA⟩ →
        vc ⟨Tryz.prog, 141, w, PH.no⟩ c_ref12_From_R8 (blockQ 1 (thenQ (vc ⟨Tryz.prog, 141, w, PH.no⟩ (.rg [⟨none, [(some 18, .mv (.t 5)), (some 19, .bin .add (.t 18) (.c (.int .i64 1))), (some 5, .mv (.t 19))]⟩] [0, 4, 5]) Q) Q)) σ := by
      intro h1 h2 σ hσ
      unfold c_ref12_From_R8
      refine vc_gh_of_ge hσ ?_
      simp (maxSteps := 2000000) only [vc_rg, segs_n, ops_cons, vcOp, ev, look, put_mk, Nat.reduceEqDiff, ↓reduceIte, reduceCtorEq, Bool.true_and, true_and, getT_nil, gTreeNode_fits]
      refine call_all (Q := fun rs m' => rs = [] ∧ RM u m' b (putL (rowsL (l.take i)) r) []) rfl rfl (fun w' vs hvv _ _ => ?_) fun rs m4 _ hq => ?_
      · obtain ⟨vs, rfl, _, hvv⟩ := argsV_g hvv
        obtain ⟨vs, rfl, _, hvv⟩ := argsV_g hvv
        obtain rfl := argsV_nil hvv
        exact rput_spec w' u mA b _ _ hR t r ⟨e1, e2, e3, hsl⟩ (by omega)
      obtain ⟨rfl, h4⟩ := hq
      simp (maxSteps := 2000000) only [retS, vc_rg, thenQ_n, blockQ_n, kKeep_eq, segs_nil, segs_n, ops_nil, ops_cons, vcOp, ev, look, put_mk, keep_mk, keepL, binV, binC, Value.oneCell', cond_true, Nat.reduceEqDiff, ↓reduceIte, reduceCtorEq, Bool.true_and, true_and]
      have hrl : rowsL (l.take (i + 1)) = putL (rowsL (l.take i)) r := by rw [htake, rowsL, rowsL, List.foldl_append]; rfl
      subst hQ; simp only [loopQ_n]; refine ⟨(i + 1, m4), ?_, ?_, ge_of ?_ ?_ rfl rfl rfl⟩
      · refine ⟨by simp only; omega, ?_, ?_, fun _ => ?_, ?_⟩
        · simp only; rw [hrl]; exact h4
        · simp only
          rw [hok, h1, h2, if_neg (by omega), Nat.add_sub_cancel, hr]; rfl
        · simp only
          rw [Nat.add_sub_cancel, hr]
          have := rowA_last h1
          rw [hla] at this
          split at this
          · exact this
          · have := hpos (by omega); omega
        · simp only
          rw [hrl]
          have := putL_len (rowsL (l.take i)) r
          omega
      · simp only; omega
      · simp only [frIn, look, Nat.reduceEqDiff, ↓reduceIte, reduceCtorEq, Bool.and_true, Bool.true_and, true_and, and_true]
        rw [wrap_n (by omega)]
        try simp
      · simp [pvIn, look]
    have hprev : 0 < i → (ts.getD (IntKind.i64.wrap ((i : Int) - 1)).toNat zTreeNode).node = (l.getD (i - 1) zTN).node := fun h => by
      rw [show (IntKind.i64.wrap ((i : Int) - 1)).toNat = i - 1 by rw [wrap64 (by omega) (by omega)]; omega]
      exact (hts.at (i - 1) (by omega)).1
    have la1 : t.node < 1 → decide (t.node ≤ last) = true := fun h => by
      rw [hla]
      split
      · exact decide_eq_true (by omega)
      · have := hpos (by omega); exact decide_eq_true (by omega)
    have la2 : 0 < i → t.node ≤ (ts.getD (IntKind.i64.wrap ((i : Int) - 1)).toNat zTreeNode).node → decide (t.node ≤ last) = true := fun h h' => by
      rw [hprev h] at h'
      rw [hla, if_neg (by omega)]; exact decide_eq_true h'
    have la3 : ¬ t.node < 1 → 0 < i → ¬ t.node ≤ (ts.getD (IntKind.i64.wrap ((i : Int) - 1)).toNat zTreeNode).node → decide (t.node ≤ last) = false := fun _ h h' => by
      rw [hprev h] at h'
      rw [hla, if_neg (by omega)]; exact decide_eq_false h'
    have la4 : ¬ t.node < 1 → ¬ 0 < i → decide (t.node ≤ last) = false := fun h h' => by
      rw [hla, if_pos (by omega)]; exact decide_eq_false (by omega)
    have hwr : 0 < i → 0 ≤ IntKind.i64.wrap ((i : Int) - 1) ∧ IntKind.i64.wrap ((i : Int) - 1) < (ts.length : Int) := fun h => by
      rw [wrap64 (by omega) (by omega)]; omega
    have hattrs : ∀ w' : World, (⟨Tryz.prog, 141, w, PH.no⟩ : Ctx).u0.le w' → Spec Tryz.prog f_ref12_attrs [t.attrs] PH.no w' fun rs _ => rs = [.s (.bool (attrsA ⟨#[]⟩ r.attrs))] := fun w' hw =>
      rAttrs_spec w' t.attrs r.attrs u (fun b o h => hw b o (by rw [u0_no]; exact hu b o h)) hsl (by omega) (hsz r hrm)
    have h12 : topB t.node = (t.node == 1 || t.node == 2) := rfl
    have hname : FnV Tryz.prog f_ref12_Name [.s (.string t.name)] [.s (.bool (nameB t.name))] := ref_Name_fn t.name.data.toList (by simpa using hnb)
    have hne : nameB t.name = true → decide (t.name = ⟨#[]⟩) = false := fun h => decide_eq_false fun e => by rw [e] at h; exact absurd h (by decide)
    cases hp1 : t.node == 1
    all_goals rw [hp1] at h12
    · simp (maxSteps := 2000000) only [Bool.and_true, and_true, true_imp_iff, false_imp_iff, Bool.false_eq_true]
      refine ⟨fun p2 => ⟨fun p3 => ⟨hwr (by omega), fun p4 => ?_, fun p4 => ?_⟩, fun p3 => ?_⟩, fun p2 => ?_⟩
      · rw [la3 p2 (by omega) p4] at hra
        refine call_is _ [.s (.bool (attrsA ⟨#[]⟩ r.attrs))] rfl rfl (fun w' vs hvv hw => by obtain ⟨vs, rfl, _, hvv⟩ := argsV_g hvv; obtain rfl := argsV_nil hvv; intro _; exact hattrs w' hw) ?_
        cases hA : attrsA ⟨#[]⟩ r.attrs
        · simp (maxSteps := 2000000) only [retS, vc_ret, vc_seq, vc_rg, vc_ite, thenQ_n, thenQ_r, blockQ_r, kKeep_eq, segs_nil, segs_n, segs_g, ops_nil, ops_cons, vcOp, RO.isGh, skip_mk, skipL, ev, look, put_mk, keep_mk, keepL, unV, Value.oneCell', cond_true, cond_false, Nat.reduceEqDiff, ↓reduceIte, reduceCtorEq, Bool.not_false, ↓br_tt, ↓br_tf, ↓br_ft]
          subst hQ
          simp (maxSteps := 2000000) only [thenQ_r, blockQ_r, loopQ_r, finQ_r]
          exact fin_g rfl ⟨fun h => absurd h (nofrom (by rw [hA, Bool.and_false])), fun _ => rfl⟩
        · cases hp2 : t.node == 2
          · rw [hp2] at h12
            simp (maxSteps := 2000000) only [retS, segs_n, segs_g, ops_nil, ops_cons, vcOp, RO.isGh, skip_mk, skipL, ev, look, put_mk, unV, GV.getT, Value.oneCell', cond_true, cond_false, Nat.reduceEqDiff, ↓reduceIte, reduceCtorEq, List.nil_append, Bool.true_and, Bool.not_true, Bool.not_false, true_and, ↓br_tt, ↓br_ff, ↓br_ft, getT_nil, fits_s, gTreeNode_fld2, gTreeNode_get2]
            have hT : topB t.node = false := h12
            refine call_fnv hname rfl rfl rfl fun _ => ?_
            simp (maxSteps := 2000000) only [retS, vc_skip, vc_ret, vc_seq, vc_rg, vc_ite, thenQ_n, thenQ_r, blockQ_r, kKeep_eq, segs_nil, segs_n, segs_g, ops_nil, ops_cons, vcOp, ev, look, put_mk, keep_mk, keepL, unV, Value.oneCell', cond_true, Nat.reduceEqDiff, ↓reduceIte, reduceCtorEq, ↓br_tt, ↓br_ff, ↓br_ft, br_t]
            refine ⟨fun q1 => ?_, fun q1 => good ?_ hA _ (ge_of (by simp [frIn, look]) (by simp [pvIn, look]) rfl rfl rfl)⟩
            · subst hQ
              simp (maxSteps := 2000000) only [thenQ_r, blockQ_r, loopQ_r, finQ_r]
              exact fin_g rfl ⟨fun h => absurd h (nofrom (by rw [hra, hT, show nameB t.name = false by simpa using q1]; simp)), fun _ => rfl⟩
            · have q2 : nameB t.name = true := by simpa using q1
              rw [hra, hT, q2, hne q2]; simp
          · rw [hp2] at h12
            simp (maxSteps := 2000000) only [retS, vc_skip, vc_ret, vc_seq, vc_rg, vc_ite, thenQ_n, thenQ_r, blockQ_r, kKeep_eq, segs_nil, segs_n, segs_g, ops_nil, ops_cons, vcOp, RO.isGh, skip_mk, skipL, ev, look, put_mk, keep_mk, keepL, binV, binC, unV, GV.getT, Value.oneCell', cond_true, cond_false, Nat.reduceEqDiff, ↓reduceIte, reduceCtorEq, List.nil_append, Bool.true_and, Bool.not_true, Bool.not_false, true_and, ↓br_tt, ↓br_ff, ↓br_tf, ↓br_ft, br_f, getT_nil, fits_s, gTreeNode_fld1, gTreeNode_get1, gTreeNode_fld2, gTreeNode_get2]
            have hT : topB t.node = true := h12
            refine ⟨fun q1 => ⟨fun q2 => good ?_ hA _ (ge_of (by simp [frIn, look]) (by simp [pvIn, look]) rfl rfl rfl), fun q2 => ?_⟩, fun q1 => ?_⟩
            · rw [hra, hT, decide_eq_true (show t.parent = 0 by simpa using q1), show decide (t.name = ⟨#[]⟩) = true by simpa using q2]; rfl
            · subst hQ
              simp (maxSteps := 2000000) only [thenQ_r, blockQ_r, loopQ_r, finQ_r]
              exact fin_g rfl ⟨fun h => absurd h (nofrom (by rw [hra, hT, show decide (t.name = ⟨#[]⟩) = false by simpa using q2]; simp)), fun _ => rfl⟩
            · subst hQ
              simp (maxSteps := 2000000) only [thenQ_r, blockQ_r, loopQ_r, finQ_r]
              exact fin_g rfl ⟨fun h => absurd h (nofrom (by rw [hra, hT, decide_eq_false (show ¬ t.parent = 0 by simpa using q1)]; simp)), fun _ => rfl⟩
      · rw [la2 (by omega) p4] at hra
        subst hQ
        simp (maxSteps := 2000000) only [thenQ_r, blockQ_r, loopQ_r, finQ_r]
        exact fin_g rfl ⟨fun h => absurd h (nofrom (by rw [hra]; rfl)), fun _ => rfl⟩
      · rw [la4 p2 (by omega)] at hra
        refine call_is _ [.s (.bool (attrsA ⟨#[]⟩ r.attrs))] rfl rfl (fun w' vs hvv hw => by obtain ⟨vs, rfl, _, hvv⟩ := argsV_g hvv; obtain rfl := argsV_nil hvv; intro _; exact hattrs w' hw) ?_
        cases hA : attrsA ⟨#[]⟩ r.attrs
        · simp (maxSteps := 2000000) only [retS, vc_ret, vc_seq, vc_rg, vc_ite, thenQ_n, thenQ_r, blockQ_r, kKeep_eq, segs_nil, segs_n, segs_g, ops_nil, ops_cons, vcOp, RO.isGh, skip_mk, skipL, ev, look, put_mk, keep_mk, keepL, unV, Value.oneCell', cond_true, cond_false, Nat.reduceEqDiff, ↓reduceIte, reduceCtorEq, Bool.not_false, ↓br_tt, ↓br_tf, ↓br_ft]
          subst hQ
          simp (maxSteps := 2000000) only [thenQ_r, blockQ_r, loopQ_r, finQ_r]
          exact fin_g rfl ⟨fun h => absurd h (nofrom (by rw [hA, Bool.and_false])), fun _ => rfl⟩
        · cases hp2 : t.node == 2
          · rw [hp2] at h12
            simp (maxSteps := 2000000) only [retS, segs_n, segs_g, ops_nil, ops_cons, vcOp, RO.isGh, skip_mk, skipL, ev, look, put_mk, unV, GV.getT, Value.oneCell', cond_true, cond_false, Nat.reduceEqDiff, ↓reduceIte, reduceCtorEq, List.nil_append, Bool.true_and, Bool.not_true, Bool.not_false, true_and, ↓br_tt, ↓br_ff, ↓br_ft, getT_nil, fits_s, gTreeNode_fld2, gTreeNode_get2]
            have hT : topB t.node = false := h12
            refine call_fnv hname rfl rfl rfl fun _ => ?_
            simp (maxSteps := 2000000) only [retS, vc_skip, vc_ret, vc_seq, vc_rg, vc_ite, thenQ_n, thenQ_r, blockQ_r, kKeep_eq, segs_nil, segs_n, segs_g, ops_nil, ops_cons, vcOp, ev, look, put_mk, keep_mk, keepL, unV, Value.oneCell', cond_true, Nat.reduceEqDiff, ↓reduceIte, reduceCtorEq, ↓br_tt, ↓br_ff, ↓br_ft, br_t]
            refine ⟨fun q1 => ?_, fun q1 => good ?_ hA _ (ge_of (by simp [frIn, look]) (by simp [pvIn, look]) rfl rfl rfl)⟩
            · subst hQ
              simp (maxSteps := 2000000) only [thenQ_r, blockQ_r, loopQ_r, finQ_r]
              exact fin_g rfl ⟨fun h => absurd h (nofrom (by rw [hra, hT, show nameB t.name = false by simpa using q1]; simp)), fun _ => rfl⟩
            · have q2 : nameB t.name = true := by simpa using q1
              rw [hra, hT, q2, hne q2]; simp
          · rw [hp2] at h12
            simp (maxSteps := 2000000) only [retS, vc_skip, vc_ret, vc_seq, vc_rg, vc_ite, thenQ_n, thenQ_r, blockQ_r, kKeep_eq, segs_nil, segs_n, segs_g, ops_nil, ops_cons, vcOp, RO.isGh, skip_mk, skipL, ev, look, put_mk, keep_mk, keepL, binV, binC, unV, GV.getT, Value.oneCell', cond_true, cond_false, Nat.reduceEqDiff, ↓reduceIte, reduceCtorEq, List.nil_append, Bool.true_and, Bool.not_true, Bool.not_false, true_and, ↓br_tt, ↓br_ff, ↓br_tf, ↓br_ft, br_f, getT_nil, fits_s, gTreeNode_fld1, gTreeNode_get1, gTreeNode_fld2, gTreeNode_get2]
            have hT : topB t.node = true := h12
            refine ⟨fun q1 => ⟨fun q2 => good ?_ hA _ (ge_of (by simp [frIn, look]) (by simp [pvIn, look]) rfl rfl rfl), fun q2 => ?_⟩, fun q1 => ?_⟩
            · rw [hra, hT, decide_eq_true (show t.parent = 0 by simpa using q1), show decide (t.name = ⟨#[]⟩) = true by simpa using q2]; rfl
            · subst hQ
              simp (maxSteps := 2000000) only [thenQ_r, blockQ_r, loopQ_r, finQ_r]
              exact fin_g rfl ⟨fun h => absurd h (nofrom (by rw [hra, hT, show decide (t.name = ⟨#[]⟩) = false by simpa using q2]; simp)), fun _ => rfl⟩
            · subst hQ
              simp (maxSteps := 2000000) only [thenQ_r, blockQ_r, loopQ_r, finQ_r]
              exact fin_g rfl ⟨fun h => absurd h (nofrom (by rw [hra, hT, decide_eq_false (show ¬ t.parent = 0 by simpa using q1)]; simp)), fun _ => rfl⟩
      · rw [la1 p2] at hra
        subst hQ
        simp (maxSteps := 2000000) only [thenQ_r, blockQ_r, loopQ_r, finQ_r]
        exact fin_g rfl ⟨fun h => absurd h (nofrom (by rw [hra]; rfl)), fun _ => rfl⟩
    · simp (maxSteps := 2000000) only [Bool.true_and, true_and, true_imp_iff, false_imp_iff, Bool.true_eq_false]
      refine ⟨fun p2 => ⟨fun p3 => ⟨hwr (by omega), fun p4 => ?_, fun p4 => ?_⟩, fun p3 => ?_⟩, fun p2 => ?_⟩
      · rw [la3 p2 (by omega) p4] at hra
        refine call_is _ [.s (.bool (attrsA ⟨#[]⟩ r.attrs))] rfl rfl (fun w' vs hvv hw => by obtain ⟨vs, rfl, _, hvv⟩ := argsV_g hvv; obtain rfl := argsV_nil hvv; intro _; exact hattrs w' hw) ?_
        cases hA : attrsA ⟨#[]⟩ r.attrs
        · simp (maxSteps := 2000000) only [retS, vc_ret, vc_seq, vc_rg, vc_ite, thenQ_n, thenQ_r, blockQ_r, kKeep_eq, segs_nil, segs_n, segs_g, ops_nil, ops_cons, vcOp, RO.isGh, skip_mk, skipL, ev, look, put_mk, keep_mk, keepL, unV, Value.oneCell', cond_true, cond_false, Nat.reduceEqDiff, ↓reduceIte, reduceCtorEq, Bool.not_false, ↓br_tt, ↓br_tf, ↓br_ft]
          subst hQ
          simp (maxSteps := 2000000) only [thenQ_r, blockQ_r, loopQ_r, finQ_r]
          exact fin_g rfl ⟨fun h => absurd h (nofrom (by rw [hA, Bool.and_false])), fun _ => rfl⟩
        · simp (maxSteps := 2000000) only [retS, vc_skip, vc_ret, vc_seq, vc_rg, vc_ite, thenQ_n, thenQ_r, blockQ_r, kKeep_eq, segs_nil, segs_n, segs_g, ops_nil, ops_cons, vcOp, RO.isGh, skip_mk, skipL, ev, look, put_mk, keep_mk, keepL, binV, binC, unV, GV.getT, Value.oneCell', cond_true, cond_false, Nat.reduceEqDiff, ↓reduceIte, reduceCtorEq, List.nil_append, Bool.true_and, Bool.not_true, Bool.not_false, true_and, ↓br_tt, ↓br_ff, ↓br_tf, ↓br_ft, br_f, getT_nil, fits_s, gTreeNode_fld1, gTreeNode_get1, gTreeNode_fld2, gTreeNode_get2]
          have hT : topB t.node = true := h12
          refine ⟨fun q1 => ⟨fun q2 => good ?_ hA _ (ge_of (by simp [frIn, look]) (by simp [pvIn, look]) rfl rfl rfl), fun q2 => ?_⟩, fun q1 => ?_⟩
          · rw [hra, hT, decide_eq_true (show t.parent = 0 by simpa using q1), show decide (t.name = ⟨#[]⟩) = true by simpa using q2]; rfl
          · subst hQ
            simp (maxSteps := 2000000) only [thenQ_r, blockQ_r, loopQ_r, finQ_r]
            exact fin_g rfl ⟨fun h => absurd h (nofrom (by rw [hra, hT, show decide (t.name = ⟨#[]⟩) = false by simpa using q2]; simp)), fun _ => rfl⟩
          · subst hQ
            simp (maxSteps := 2000000) only [thenQ_r, blockQ_r, loopQ_r, finQ_r]
            exact fin_g rfl ⟨fun h => absurd h (nofrom (by rw [hra, hT, decide_eq_false (show ¬ t.parent = 0 by simpa using q1)]; simp)), fun _ => rfl⟩
      · rw [la2 (by omega) p4] at hra
        subst hQ
        simp (maxSteps := 2000000) only [thenQ_r, blockQ_r, loopQ_r, finQ_r]
        exact fin_g rfl ⟨fun h => absurd h (nofrom (by rw [hra]; rfl)), fun _ => rfl⟩
      · rw [la4 p2 (by omega)] at hra
        refine call_is _ [.s (.bool (attrsA ⟨#[]⟩ r.attrs))] rfl rfl (fun w' vs hvv hw => by obtain ⟨vs, rfl, _, hvv⟩ := argsV_g hvv; obtain rfl := argsV_nil hvv; intro _; exact hattrs w' hw) ?_
        cases hA : attrsA ⟨#[]⟩ r.attrs
        · simp (maxSteps := 2000000) only [retS, vc_ret, vc_seq, vc_rg, vc_ite, thenQ_n, thenQ_r, blockQ_r, kKeep_eq, segs_nil, segs_n, segs_g, ops_nil, ops_cons, vcOp, RO.isGh, skip_mk, skipL, ev, look, put_mk, keep_mk, keepL, unV, Value.oneCell', cond_true, cond_false, Nat.reduceEqDiff, ↓reduceIte, reduceCtorEq, Bool.not_false, ↓br_tt, ↓br_tf, ↓br_ft]
          subst hQ
          simp (maxSteps := 2000000) only [thenQ_r, blockQ_r, loopQ_r, finQ_r]
          exact fin_g rfl ⟨fun h => absurd h (nofrom (by rw [hA, Bool.and_false])), fun _ => rfl⟩
        · simp (maxSteps := 2000000) only [retS, vc_skip, vc_ret, vc_seq, vc_rg, vc_ite, thenQ_n, thenQ_r, blockQ_r, kKeep_eq, segs_nil, segs_n, segs_g, ops_nil, ops_cons, vcOp, RO.isGh, skip_mk, skipL, ev, look, put_mk, keep_mk, keepL, binV, binC, unV, GV.getT, Value.oneCell', cond_true, cond_false, Nat.reduceEqDiff, ↓reduceIte, reduceCtorEq, List.nil_append, Bool.true_and, Bool.not_true, Bool.not_false, true_and, ↓br_tt, ↓br_ff, ↓br_tf, ↓br_ft, br_f, getT_nil, fits_s, gTreeNode_fld1, gTreeNode_get1, gTreeNode_fld2, gTreeNode_get2]
          have hT : topB t.node = true := h12
          refine ⟨fun q1 => ⟨fun q2 => good ?_ hA _ (ge_of (by simp [frIn, look]) (by simp [pvIn, look]) rfl rfl rfl), fun q2 => ?_⟩, fun q1 => ?_⟩
          · rw [hra, hT, decide_eq_true (show t.parent = 0 by simpa using q1), show decide (t.name = ⟨#[]⟩) = true by simpa using q2]; rfl
          · subst hQ
            simp (maxSteps := 2000000) only [thenQ_r, blockQ_r, loopQ_r, finQ_r]
            exact fin_g rfl ⟨fun h => absurd h (nofrom (by rw [hra, hT, show decide (t.name = ⟨#[]⟩) = false by simpa using q2]; simp)), fun _ => rfl⟩
          · subst hQ
            simp (maxSteps := 2000000) only [thenQ_r, blockQ_r, loopQ_r, finQ_r]
            exact fin_g rfl ⟨fun h => absurd h (nofrom (by rw [hra, hT, decide_eq_false (show ¬ t.parent = 0 by simpa using q1)]; simp)), fun _ => rfl⟩
      · rw [la1 p2] at hra
        subst hQ
        simp (maxSteps := 2000000) only [thenQ_r, blockQ_r, loopQ_r, finQ_r]
        exact fin_g rfl ⟨fun h => absurd h (nofrom (by rw [hra]; rfl)), fun _ => rfl⟩
  · subst hQ
    simp (maxSteps := 2000000) only [vc_seq, vc_rg, thenQ_n, blockQ_e, loopQ_e, segs_n, ops_cons, vcOp, ev, look, put_mk, Nat.reduceEqDiff, ↓reduceIte, reduceCtorEq, Nat.add_zero]
    have hi' : i = l.length := by omega
    rw [hi', List.take_length] at hR hlen
    rw [hi', List.drop_length, okR] at hok
    obtain ⟨hLr, hvr⟩ := rowsL_view hok
    have hfrom : fromA l ↔ ∀ n, viewL (rowsL l) n ≠ none → ∃ k, LeadsN (viewL (rowsL l)) k n := by rw [hvr, fromA_iff]; exact ⟨fun h => h.2, fun h => ⟨hok, h⟩⟩
    have hlr : ∀ t ∈ rowsL l, t.attrs.length ≤ 549755813888 := by
      have : ∀ (l b : List TN), (∀ t ∈ b, t.attrs.length ≤ 549755813888) → (∀ t ∈ l, t.attrs.length ≤ 549755813888) → ∀ t ∈ l.foldl putL b, t.attrs.length ≤ 549755813888 := by
        intro l
        induction l with
        | nil => intro b hb _; exact hb
        | cons r l ih =>
          intro b hb hl
          refine ih (putL b r) (fun t ht => ?_) fun t ht => hl t (by simp [ht])
          unfold putL at ht
          split at ht
          · rcases List.mem_or_eq_of_mem_set ht with h | rfl
            · exact hb t h
            · exact hl _ (by simp)
          · rcases List.mem_append.1 ht with h | h
            · exact hb t (List.mem_of_mem_take h)
            · rcases List.mem_cons.1 h with rfl | h
              · exact hl _ (by simp)
              · exact hb t (List.mem_of_mem_drop h)
      exact this l T0L (fun t ht => by simp [T0L] at ht; rcases ht with rfl | rfl <;> simp) hat
    generalize hlrg : rowsL l = lr at *
    obtain ⟨nv, wv, e, mn, mw, mo, tr, vs, rfl, p⟩ := hR
    obtain ⟨d1, d2, d3, hrows, htold, hne, hwas, holds⟩ := p
    obtain ⟨d1n, d1r⟩ := dis_of_uni_r d1
    obtain ⟨d1w, d1o⟩ := dis_of_uni_r d1r
    have nv1 : nv.oneCell' = true := by rcases hrows.2 with ⟨rfl, _⟩ | ⟨ad, c, rfl, _⟩ <;> rfl
    refine ld_of _ (seen_cell kn_m (sub_uni_l _ _ _ _ (one_self _ _)) rfl nv1) rfl ?_
    simp (maxSteps := 2000000) only [ops_cons, vcOp, put_mk]
    refine call_ownm rfl rfl (Q := fun rs m' => ∃ v mc ma ts', rs = [.s v] ∧ m' = uni mc ma ∧ dis mc ma ∧ SlO mc v 39 4 (ts'.map gTreeNode) ∧ TsOk ma ts' lr) (fun w' vs hv hw _ hm => ?_) fun rs mX _ hq hdX => ?_
    · obtain ⟨vs, rfl, _, hv⟩ := argsV_g hv
      obtain rfl := argsV_nil hv
      have s1 : PH.sub mn w'.ph := fun b o q => hm b o (sub_uni_r d1 _ _ (sub_uni_l _ _ b o q))
      have s2 : PH.sub u w'.ph := fun b o q => hw b o (by rw [u0_no]; exact hu b o q)
      exact clone_spec w' nv tr lr w'.ph (fun _ _ h => h) (hrows.toR.up s1) (htold.up s2) (by omega) fun t ht => by have := hlr t ht; omega
    obtain ⟨v, mc, ma, ts', rfl, rfl, hcm, hs1, hs2⟩ := hq
    simp (maxSteps := 2000000) only [retS, ops_cons, vcOp, ev, look, put_mk, Nat.reduceEqDiff, ↓reduceIte, Nat.add_zero]
    obtain ⟨hXc, hX2⟩ := dis_of_uni_r hdX
    obtain ⟨hXn, hX3⟩ := dis_of_uni_r hX2
    obtain ⟨hXw, hXo⟩ := dis_of_uni_r hX3
    have hxb : (uni mc ma) b = none := (hXc b).resolve_right (by rw [one_self]; simp)
    refine st_of rfl #[nv, wv] e ⟨by simp only [uni] at hxb ⊢; rw [hxb, Option.none_or, one_self]; rfl, by simp⟩ ?_
    simp (maxSteps := 2000000) only [vc_seq, vc_block, vc_rg, thenQ_n, kKeep_eq, segs_nil, segs_n, ops_nil, ops_cons, vcOp, ev, look, put_mk, put_mk0, keep_mk, keepL, Value.oneCell', cond_true, Nat.reduceEqDiff, ↓reduceIte, reduceCtorEq]
    rw [uni_upd hxb, uni_one_upd]
    show vc _ _ _ ⟨_, _, _, uni (uni mc ma) (uni (one b (.cells #[v, wv] e (0, 0))) (uni mn (uni mw mo)))⟩
    have dn : ∀ {x : PH}, dis (one b (.cells #[nv, wv] e (0, 0))) x → dis (one b (.cells #[v, wv] e (0, 0))) x := fun hx => dis_one_of hx
    obtain ⟨cc, ca⟩ := dis_of_uni_r (dis_comm hXc)
    obtain ⟨nc, na⟩ := dis_of_uni_r (dis_comm hXn)
    obtain ⟨wc, wa⟩ := dis_of_uni_r (dis_comm hXw)
    obtain ⟨oc', oa⟩ := dis_of_uni_r (dis_comm hXo)
    obtain ⟨d2w, d2o⟩ := dis_of_uni_r d2
    have hvl : vs = [] := by
      have := holds.len
      exact List.length_eq_zero_iff.1 this
    subst hvl
    have hmo : mo = PH.no := holds
    have hRM : RM ma (uni (one b (.cells #[v, wv] e (0, 0))) (uni mc (uni mw mo))) b lr [] := ⟨v, wv, e, mc, mw, mo, ts', [], rfl, ⟨dis_uni_r (dn cc) (dis_uni_r (dn d1w) (dn d1o)), dis_uni_r (dis_comm wc) (dis_comm oc'), d3, hs1, hs2, hne, hwas, hmo⟩⟩
    have hdd : dis (uni (one b (.cells #[v, wv] e (0, 0))) (uni mc (uni mw mo))) ma := dis_uni_l (dn ca) (dis_uni_l hcm (dis_uni_l wa oa))
    have hMeq : uni (uni mc ma) (uni (one b (.cells #[v, wv] e (0, 0))) (uni mn (uni mw mo))) = uni (uni (uni (one b (.cells #[v, wv] e (0, 0))) (uni mc (uni mw mo))) ma) mn := by
      rw [uni_lc d2w, uni_comm d2o]
      simp only [uni_assoc]
      rw [uni_lc (dis_comm (dn ca)), uni_lc (dis_comm (dn cc)), uni_lc (dis_comm wa), uni_lc (dis_comm oa)]
    generalize uni (one b (.cells #[v, wv] e (0, 0))) (uni mc (uni mw mo)) = mR at hRM hdd hMeq
    generalize uni (uni mc ma) (uni (one b (.cells #[v, wv] e (0, 0))) (uni mn (uni mw mo))) = M3 at hMeq ⊢
    have sR : PH.sub mR M3 := by rw [hMeq]; exact PH.sub_trans (sub_uni_l _ _) (sub_uni_l _ _)
    have sRa : PH.sub (uni mR ma) M3 := by rw [hMeq]; exact sub_uni_l _ _
    have hRC : RC (uni mR ma) b lr [] := ⟨mR, ma, rfl, hdd, hRM⟩
    obtain ⟨b2, o2, c, tq, hltq, h0, htq, _, hs0, hsi⟩ := hRM.look
    have hk1 : ∀ {C : Ctx}, KN C.u0 [M3] mR := fun {C} j o q => .inr ⟨M3, by simp, sR j o q⟩
    have hv0 : ∀ i, i < lr.length → viewL lr (lr.getD i zTN).node ≠ none := fun i hi => by
      have hm : lr.getD i zTN ∈ lr := by rw [List.getD_eq_getElem?_getD, List.getElem?_eq_getElem hi]; exact List.getElem_mem _
      rw [viewL, (getL_mem hLr.sorted).2 ⟨hm, rfl⟩]; simp
    refine vc_loop (ι := Nat) (fun i => ⟨[(4, .g (.s (.pointer (some ⟨b, 0, none⟩)))), (8, .g (.s (.int .i64 (i))))], [], [], M3⟩) (fun i => i ≤ lr.length ∧ ∀ j, j < i → ∃ k, LeadsN (viewL lr) k (lr.getD j zTN).node) (fun i => lr.length - i) 0 ⟨by simp, fun j hj => by omega⟩ (ge_of ?_ ?_ rfl rfl rfl) ?_
    · simp [frIn, look]
    · simp [pvIn, look]
    rintro i ⟨hi2, hled⟩
    generalize hQ : loopQ _ _ _ _ _ = Q
    simp (maxSteps := 2000000) only [c_ref12_From_L2, vc_seq, vc_rg, segs_n, ops_cons, vcOp, ev, look, put_mk, Nat.reduceEqDiff, ↓reduceIte, Nat.add_zero]
    refine ld_of _ (hs0 hk1) rfl ?_
    simp (maxSteps := 2000000) only [vc_skip, vc_exit, vc_seq, vc_block, vc_rg, vc_ite, thenQ_n, thenQ_e, kKeep_eq, segs_nil, segs_n, ops_nil, ops_cons, vcOp, ev, look, put_mk, keep_mk, keepL, binV, binC, Nat.reduceEqDiff, ↓reduceIte, Nat.add_zero, Bool.true_and, true_and, decide_eq_true_eq, decide_eq_false_iff_not, br_t]
    refine ⟨fun hlt => ?_, fun hge2 => ?_⟩
    · have hlt : i < lr.length := by omega
      refine ld_of _ (hs0 hk1) rfl ?_
      simp (maxSteps := 2000000) only [ops_cons, vcOp, ev, look, put_mk, Nat.reduceEqDiff, ↓reduceIte, Nat.add_zero, Int.toNat_natCast]
      refine ⟨⟨by omega, by omega⟩, ld_of _ (seen_TN (hsi hk1 i hlt)).1 rfl ?_⟩
      simp (maxSteps := 2000000) only [vc_seq, vc_block, vc_rg, thenQ_n, kKeep_eq, segs_nil, segs_n, ops_nil, ops_cons, vcOp, ev, look, put_mk, keep_mk, keepL, Value.oneCell', cond_true, Nat.reduceEqDiff, ↓reduceIte]
      have hn0 : (tq.getD i zTreeNode).node = (lr.getD i zTN).node := (htq.at i (by omega)).1
      rw [hn0]
      have hvi := hv0 i hlt
      obtain ⟨n0, hn0'⟩ : ∃ n0, n0 = (lr.getD i zTN).node := ⟨_, rfl⟩
      rw [← hn0'] at hvi ⊢
      refine vc_loop (ι := Int × Nat) (fun q => ⟨[(4, .g (.s (.pointer (some ⟨b, 0, none⟩)))), (8, .g (.s (.int .i64 (i)))), (9, .g (.s (.int .i64 (q.1)))), (10, .g (.s (.int .i64 (q.2))))], [], [], M3⟩) (fun q => (∀ j, LeadsN (viewL lr) (j + q.2) n0 ↔ LeadsN (viewL lr) j q.1) ∧ (∀ j, j < q.2 → ¬ LeadsN (viewL lr) j n0) ∧ q.2 ≤ lr.length + 1) (fun q => lr.length + 2 - q.2) (n0, 0) ⟨fun j => Iff.rfl, fun j hj => by omega, by omega⟩ (ge_of ?_ ?_ rfl rfl rfl) ?_
      · simp [frIn, look]
      · simp [pvIn, look]
      rintro ⟨n, k⟩ ⟨hj1, hj2, hkl⟩
      simp only at hj1 hj2 hkl
      generalize hQ2 : loopQ _ _ _ _ _ = Q2
      have fail : (∀ j, ¬ LeadsN (viewL lr) j n0) → ¬ fromA l := fun h hf => by
        obtain ⟨j, hj⟩ := hfrom.1 hf n0 hvi
        exact h j hj
      simp (maxSteps := 2000000) only [c_ref12_From_L1, vc_skip, vc_exit, vc_seq, vc_block, vc_rg, vc_ite, thenQ_n, thenQ_e, kKeep_eq, segs_nil, segs_n, segs_g, ops_nil, ops_cons, vcOp, RO.isGh, skip_mk, skipL, ev, look, put_mk, keep_mk, keepL, binV, binC, Value.oneCell', cond_true, cond_false, Nat.reduceEqDiff, ↓reduceIte, Bool.true_and, Bool.not_true, true_and, ↓br_tt, ↓br_ft, br_t]
      have top : topB n = true → ∀ σ : SS, frIn σ.fr [(4, .g (.s (.pointer (some ⟨b, 0, none⟩)))), (8, .g (.s (.int .i64 (i))))] → σ.m = M3 → σ.ph = [] → Q2 (.exit 4) σ := by
        rintro ht ⟨fr, pv, ph, m'⟩ hfr rfl rfl
        obtain ⟨f1, f2, _⟩ := hfr
        subst hQ2
        simp (maxSteps := 2000000) only [f1, f2, vc_rg, thenQ_n, blockQ_n, blockQ_e, kKeep_eq, loopQ_e, segs_nil, segs_n, ops_nil, ops_cons, vcOp, ev, look, put_mk, keep_mk, keepL, binV, binC, Value.oneCell', cond_true, Nat.reduceEqDiff, ↓reduceIte, Bool.true_and, true_and]
        subst hQ; simp only [loopQ_n]
        refine ⟨i + 1, ⟨by omega, fun j hj => ?_⟩, by omega, ge_of ?_ (by simp [pvIn]) rfl rfl rfl⟩
        · rcases Nat.lt_or_ge j i with h | h
          · exact hled j h
          · have : j = i := by omega
            rw [this, ← hn0']
            exact ⟨0 + k, (hj1 0).2 ht⟩
        · simp only [frIn, look, Nat.reduceEqDiff, ↓reduceIte, Bool.and_true, Bool.true_and, true_and, and_true]
          rw [wrap_n (by omega)]
          try simp
      refine ⟨fun q1 => ⟨fun q2 => ?_, fun q2 => ?_⟩, fun q1 => ?_⟩
      · have ht : topB n = false := by
          simp only [topB]
          have h1 : n ≠ 1 := by simpa using q1
          have h2 : n ≠ 2 := by simpa using q2
          simp [h1, h2]
        refine call_ism _ [.s (.int .i64 (findL lr n)), .s (.bool (isL lr n))] rfl rfl (fun w' vs hv _ _ hm => ?_) ?_
        · obtain ⟨vs, rfl, _, hv⟩ := argsV_g hv
          obtain ⟨vs, rfl, _, hv⟩ := argsV_g hv
          obtain rfl := argsV_nil hv
          exact find_spec w' ma mR (fun b o q => hm b o (sR b o q)) b lr [] hRM n (by omega)
        simp (maxSteps := 2000000) only [retS, List.getElem?_cons_zero, List.getElem?_cons_succ, vc_ret, vc_seq, vc_rg, vc_ite, thenQ_n, thenQ_r, blockQ_r, kKeep_eq, segs_nil, segs_n, segs_g, ops_nil, ops_cons, vcOp, RO.isGh, skip_mk, skipL, ev, look, put_mk, keep_mk, keepL, unV, Value.oneCell', cond_true, cond_false, Nat.reduceEqDiff, ↓reduceIte, Nat.add_zero, Bool.not_false, ↓br_tt, br_f]
        refine ⟨fun r1 => ?_, fun r1 => ?_⟩
        · rw [Bool.not_eq_false', isL_get] at r1
          obtain ⟨t, ht2⟩ := Option.isSome_iff_exists.1 r1
          obtain ⟨hlt2, hgd⟩ := getL_at ht2
          have hvn : viewL lr n = some ⟨t.parent, t.name, lookA t.attrs⟩ := by rw [viewL, ht2]; rfl
          refine ld_of _ (hs0 hk1) rfl ?_
          simp (maxSteps := 2000000) only [vc_skip, vc_ret, vc_seq, vc_rg, vc_ite, thenQ_n, thenQ_r, blockQ_r, kKeep_eq, segs_nil, segs_n, ops_nil, ops_cons, vcOp, ev, look, put_mk, keep_mk, keepL, binV, binC, Value.oneCell', cond_true, Nat.reduceEqDiff, ↓reduceIte, Nat.add_zero, Bool.true_and, true_and, decide_eq_true_eq, decide_eq_false_iff_not, ↓br_ft, br_t]
          refine ⟨fun r2 => ?_, fun r2 => ?_⟩
          · subst hQ2; subst hQ
            simp (maxSteps := 2000000) only [thenQ_r, blockQ_r, loopQ_r, finQ_r]
            refine fin_g rfl ⟨fun h => absurd h (fail fun j hj => ?_), fun _ => rfl⟩
            have h1 := LeadsN.fewL hLr hj
            exact hj2 j (by omega) hj
          · refine ld_of _ (hs0 hk1) rfl ?_
            simp (maxSteps := 2000000) only [ops_cons, vcOp, ev, look, put_mk, Nat.reduceEqDiff, ↓reduceIte, Int.toNat_natCast]
            refine ⟨⟨by omega, by omega⟩, ld_of _ (seen_TN (hsi hk1 _ hlt2)).2.1 rfl ?_⟩
            simp (maxSteps := 2000000) only [vc_rg, thenQ_n, blockQ_n, kKeep_eq, segs_nil, segs_n, ops_nil, ops_cons, vcOp, ev, look, put_mk, keep_mk, keepL, binV, binC, Value.oneCell', cond_true, Nat.reduceEqDiff, ↓reduceIte, Bool.true_and, true_and]
            have hpar : (tq.getD (findL lr n) zTreeNode).parent = t.parent := by rw [(htq.at (findL lr n) (by omega)).2.1, hgd]
            rw [hpar]
            subst hQ2; simp only [loopQ_n]
            refine ⟨(t.parent, k + 1), ⟨fun j => ?_, fun j hj => ?_, by simp only; omega⟩, by simp only; omega, ge_of ?_ (by simp [pvIn]) rfl rfl rfl⟩
            · simp only
              rw [show j + (k + 1) = (j + 1) + k by omega, hj1]
              constructor
              · rintro ⟨_, y, hy1, hy2⟩
                rw [hvn] at hy1
                cases hy1
                exact hy2
              · intro h
                exact ⟨ht, _, hvn, h⟩
            · simp only at hj
              rcases Nat.lt_or_ge j k with h | h
              · exact hj2 j h
              · have : j = 0 + k := by omega
                rw [this, hj1]
                intro h
                rw [show topB n = true from h] at ht; cases ht
            · simp only [frIn, look, Nat.reduceEqDiff, ↓reduceIte, Bool.and_true, Bool.true_and, true_and, and_true]
              rw [wrap_n (by omega)]
              try simp
        · rw [Bool.not_eq_true', isL_view] at r1
          have hvn : viewL lr n = none := Option.isNone_iff_eq_none.1 (by rw [← Option.not_isSome, r1]; rfl)
          subst hQ2; subst hQ
          simp (maxSteps := 2000000) only [thenQ_r, blockQ_r, loopQ_r, finQ_r]
          refine fin_g rfl ⟨fun h => absurd h (fail fun j hj => ?_), fun _ => rfl⟩
          rcases Nat.lt_or_ge j k with h | h
          · exact hj2 j h hj
          · rw [show j = (j - k) + k by omega, hj1] at hj
            cases hjk : j - k with
            | zero => rw [hjk] at hj; rw [show topB n = true from hj] at ht; cases ht
            | succ q => rw [hjk] at hj; obtain ⟨_, y, hy, _⟩ := hj; rw [hvn] at hy; cases hy
      · exact top (by simp only [topB]; rw [show n = 2 by simpa using q2]; rfl) _ (by simp [frIn, look]) rfl rfl
      · exact top (by simp only [topB]; rw [show n = 1 by simpa using q1]; rfl) _ (by simp [frIn, look]) rfl rfl
    · subst hQ
      simp (maxSteps := 2000000) only [vc_ret, vc_seq, vc_rg, thenQ_n, blockQ_e, kKeep_eq, loopQ_e, finQ_r, segs_nil, segs_n, ops_nil, ops_cons, vcOp, ev, look, put_mk, keep_mk, keepL, Value.oneCell', cond_true, Nat.reduceEqDiff, ↓reduceIte]
      refine fin_m _ rfl sRa ⟨fun _ => ⟨b, rfl, hRC⟩, fun h => absurd (hfrom.2 fun n hn => ?_) h⟩
      unfold viewL at hn
      cases hg : getL lr n with
      | none => rw [hg] at hn; simp at hn
      | some t =>
        obtain ⟨q1, q2⟩ := (getL_mem hLr.sorted).1 hg
        obtain ⟨j, hj, hjt⟩ := List.getElem_of_mem q1
        have := hled j (by omega)
        rw [List.getD_eq_getElem?_getD, List.getElem?_eq_getElem hj] at this
        simp only [Option.getD_some] at this
        rw [hjt, q2] at this
        exact this
end Go.Proofs.YtdpknchgoeboaaaGreat.Vc

/- The document's lists beside a tree: plain. -/
set_option linter.unusedVariables false
set_option linter.unusedSimpArgs false
namespace Go.Proofs.YtdpknchgoeboaaaGreat.Vc
open Go

theorem plain_rows {l : List TN} {T : PT} {k : Nat} (h : LOk l) (hv : ∀ n, viewL l n = T.view n ∨ (viewL l n = none ∧ topB n = true ∧ T.view n = some PN.bare.view)) (hok : T.ok k) (hg : VGood T.view) : plainL l = nodesTold T := by
  have hs2 := toldL_sorted (T := T) (nodesK_sorted hok.nod)
  have hs1 : (plainL l).Pairwise (fun a b => a.node < b.node) := h.sorted.sublist List.filter_sublist
  have nd : ∀ {l : List TN}, l.Pairwise (fun a b => a.node < b.node) → l.Nodup := fun hs => hs.imp fun {a b} hab e => by rw [e] at hab; omega
  have hat : ∀ n x, T.get n = some x → attrsA ⟨#[]⟩ (attrsOf x) = true := fun n x hx => attrsOf_ok (hok.attrs n x hx).1 fun k w h => hg.pairs n _ k w (PT.view_get hx) h
  have key : ∀ n t x, getL l n = some t → T.get n = some x → t = toldOf n x := fun n t x h1 h2 => by
    have hvn : viewL l n = T.view n := by
      rcases hv n with q | ⟨q, _⟩
      · exact q
      · rw [viewL, h1] at q; cases q
    rw [viewL, h1, PT.view_get h2] at hvn
    simp only [Option.map_some, Option.some.injEq, PN.view, AN.mk.injEq] at hvn
    obtain ⟨q1, q2, q3⟩ := hvn
    obtain ⟨m1, m2⟩ := (getL_mem h.sorted).1 h1
    obtain ⟨tn, tp, tm, ta⟩ := t
    simp only at q1 q2 q3 m2
    have : ta = attrsOf x := attrs_uniq (h.attrs _ m1) (hat n x h2) (by rw [q3]; funext j; exact (attrsOf_look x j).symm)
    rw [toldOf, ← q1, ← q2, ← m2, this]
  have hsh : ∀ t : TN, 0 < t.node → (decide (t.node > 2) || decide (0 < t.attrs.length)) = t.shown := fun t ht => by
    rw [TN.shown]
    congr 1
    simp only [topB]
    by_cases h1 : t.node = 1
    · simp [h1]
    · by_cases h2 : t.node = 2
      · simp [h2]
      · rw [decide_eq_true (by omega)]; simp [h1, h2]
  have hp : (plainL l).Perm (nodesTold T) := (List.perm_ext_iff_of_nodup (nd hs1) (nd hs2)).2 fun t => by
    constructor
    · intro ht
      obtain ⟨m1, m2⟩ := List.mem_filter.1 ht
      have hg1 := (getL_mem h.sorted).2 ⟨m1, rfl⟩
      have hvn : viewL l t.node = T.view t.node := by
        rcases hv t.node with q | ⟨q, _⟩
        · exact q
        · rw [viewL, hg1] at q; cases q
      rw [viewL, hg1] at hvn
      obtain ⟨x, hx, _⟩ := get_of_view hvn.symm
      have e := key _ _ _ hg1 hx
      rw [e]
      refine (mem_told hx).2 ?_
      rw [← e, ← hsh t (hg.pos _ _ (PT.view_get hx))]
      exact m2
    · intro ht
      obtain ⟨n, _, x, hx, rfl⟩ := toldL_node ht
      have hshow := (mem_told hx).1 ht
      rcases hv n with hvn | ⟨_, htop, hb⟩
      · rw [PT.view_get hx] at hvn
        cases hg1 : getL l n with
        | none => rw [viewL, hg1] at hvn; cases hvn
        | some t =>
          have e := key _ _ _ hg1 hx
          obtain ⟨m1, _⟩ := (getL_mem h.sorted).1 hg1
          rw [e] at m1
          refine List.mem_filter.2 ⟨m1, ?_⟩
          rw [hsh _ (hg.pos _ _ (PT.view_get hx))]
          exact hshow
      · rw [PT.view_get hx] at hb
        simp only [Option.some.injEq, PN.view, PN.bare, AN.mk.injEq] at hb
        have : attrsOf x = [] := attrs_uniq (hat n x hx) rfl (by funext j; rw [attrsOf_look, hb.2.2]; rfl)
        rw [TN.shown, show (toldOf n x).node = n from rfl, htop, show (toldOf n x).attrs = attrsOf x from rfl, this] at hshow
        cases hshow
  refine List.Perm.eq_of_pairwise (le := fun a b : TN => a.node < b.node) (fun a b _ _ h1 h2 => ?_) hs1 hs2 hp
  omega
theorem plain_from {l : List TN} {T : PT} {k : Nat} (hR : okR 0 l = true) (hv : T.view = viewOf l) (hok : T.ok k) (hg : VGood T.view) : plainL l = nodesTold T := by
  obtain ⟨h1, h2⟩ := okR_each hR
  have hL : LOk l := ⟨h1, fun t ht => (h2 t ht).2⟩
  refine plain_rows hL (fun n => ?_) hok hg
  rw [hv]
  by_cases hn : ∃ r ∈ l, r.node = n
  · obtain ⟨r, hr, rfl⟩ := hn
    left
    rw [viewL, (getL_mem h1).2 ⟨hr, rfl⟩, viewOf, rowGet_of h1 hr]
    simp only [Option.map_some, Option.some.injEq, rowN, PN.view, AN.mk.injEq, true_and]
    funext j
    rw [laidA_get (h2 r hr).2]
  · have hn' : ∀ r ∈ l, r.node ≠ n := fun r hr e => hn ⟨r, hr, e⟩
    have hgn : getL l n = none := by
      cases hg : getL l n with
      | none => rfl
      | some t => obtain ⟨q1, q2⟩ := (getL_mem h1).1 hg; exact absurd q2 (hn' t q1)
    rw [viewL, hgn, viewOf, rowGet_none hn']
    cases h0 : T0.get n with
    | none => exact .inl rfl
    | some x =>
      right
      exact ⟨rfl, (T0_keys (PT.view_get h0)).1, by rw [T0_get h0]; rfl⟩
theorem list_bounds {l : List TN} {T : PT} {k : Nat} (h : LOk l) (hv : viewL l = T.view) (hok : T.ok k) (hg : VGood T.view) : l.length ≤ k + 2 ∧ ∀ t ∈ l, t.attrs.length ≤ k := by
  have hin : ∀ t ∈ l, ∃ x, T.get t.node = some x ∧ t.attrs = attrsOf x := fun t ht => by
    have hg1 := (getL_mem h.sorted).2 ⟨ht, rfl⟩
    have hvn : viewL l t.node = T.view t.node := congrFun hv _
    rw [viewL, hg1] at hvn
    obtain ⟨x, hx, he⟩ := get_of_view hvn.symm
    refine ⟨x, hx, attrs_uniq (h.attrs t ht) (attrsOf_ok (hok.attrs _ x hx).1 fun k w q => hg.pairs _ _ k w (PT.view_get hx) q) ?_⟩
    simp only [PN.view, AN.mk.injEq] at he
    rw [← he.2.2]
    funext j
    exact (attrsOf_look x j).symm
  refine ⟨?_, fun t ht => ?_⟩
  · have nd : (l.map (·.node)).Nodup := by
      rw [List.Nodup, List.pairwise_map]
      exact h.sorted.imp fun {a b} hab e => by omega
    have := nodup_len (b := T.nodes.map (·.1)) nd fun m hm => by
      obtain ⟨t, ht, rfl⟩ := List.mem_map.1 hm
      obtain ⟨x, hx, _⟩ := hin t ht
      exact List.mem_map.2 ⟨(t.node, x), getA_mem hx, rfl⟩
    simp only [List.length_map] at this
    have := hok.many
    omega
  · obtain ⟨x, hx, e⟩ := hin t ht
    rw [e]
    have := (hok.attrs _ x hx).2
    simpa [attrsOf, attrKeys, sortB] using this
end Go.Proofs.YtdpknchgoeboaaaGreat.Vc

/- TreeAgain, the walk. -/
set_option linter.unusedVariables false
set_option linter.unusedSimpArgs false
set_option maxRecDepth 100000
namespace Go.Proofs.YtdpknchgoeboaaaGreat.Vc
open Go Go.Proofs

theorem nameB_size {b : ByteArray} (h : nameB b = true) : b.size ≤ 255 := by
  have := nameA_len h
  simpa using this
/-- What a tree tells may be asked for again. -/
theorem told_bounds {T : PT} {k : Nat} (hok : T.ok k) (hg : VGood T.view) : (nodesTold T).length ≤ k + 2 ∧ (∀ r ∈ nodesTold T, r.attrs.length ≤ k + 2) ∧ (∀ r ∈ nodesTold T, r.name.size ≤ 140737488355328) ∧ ∀ r ∈ nodesTold T, (Lit.int .i64 r.node).wf = true := by
  refine ⟨Nat.le_trans (nodesTold_len T) hok.many, fun r hr => by have := nodesTold_few hok hr; omega, fun r hr => ?_, fun r hr => ?_⟩
  · obtain ⟨n, _, x, hx, rfl⟩ := toldL_node hr
    show x.name.size ≤ _
    cases ht : topB n with
    | true =>
      have : x.name = ⟨#[]⟩ := (hg.top n _ (PT.view_get hx) ht).2
      rw [this]; decide
    | false =>
      have : nameB x.name = true := hg.name n _ (PT.view_get hx) ht
      have := nameB_size this
      omega
  · obtain ⟨n, _, x, hx, rfl⟩ := toldL_node hr
    exact hok.keys n x hx

end Go.Proofs.YtdpknchgoeboaaaGreat.Vc

/- What a law's arguments are, where what is read is of bounded bulk: nested. -/
set_option linter.unusedVariables false
set_option linter.unusedSimpArgs false
namespace Go.Proofs.YtdpknchgoeboaaaGreat.Vc
open Go Go.Proofs Go.Proofs.YtdpknchgoeboaaaGreat Go.ChangeShapes Go.WideShapes Go.ChangeAt

section
variable {H : Type} (enc : TypeId × Value → H) (P : Program) (W : World)
/-- A cell that reads, of so much bulk. -/
def RdTB (t : TypeId) (v : Value) (n : Nat) : Prop := ∃ fuel x, DataW.trod enc P W 0 (fun _ => true) true fuel t [v] = some x ∧ (x.1.weights P t).all (· ≤ reachBytes) = true ∧ Rows.uptoBulk x.1 = n
def KB (n : Nat) (k : K1) (v : Value) : Prop := (∀ s, v = .string s → s.size ≤ n) ∧ ∀ t, k = .sl t → ∃ m, m ≤ n ∧ RdTB enc P W t v m
def FineB (n : Nat) (ks : List K1) (q : Raw) : Prop := ∀ (j : Nat) (k : K1), ks[j]? = some k → KB enc P W n k (q.at j k)
end
section
variable {H : Type} {enc : TypeId × Value → H} {P : Program} {W : World}
def KindsB (n : Nat) (ks : List K1) (cs : List Value) : Prop := cs.length = ks.length ∧ ∀ (j : Nat) (v : Value) (k : K1), cs[j]? = some v → ks[j]? = some k → KB enc P W n k v
theorem bulkAll_mem : ∀ {l : List (DataW H)} {d : DataW H}, d ∈ l → Rows.uptoBulk d ≤ Rows.uptoBulkAll l
  | [], _, h => by simp at h
  | x :: l, d, h => by
    simp only [Rows.uptoBulkAll]
    rcases List.mem_cons.1 h with rfl | h
    · omega
    · have := bulkAll_mem h; omega
theorem bulk_len' (l : List (DataW H)) : l.length ≤ Rows.uptoBulkAll l := by
  induction l with
  | nil => simp
  | cons x l ih => have := bulk_one_le x; simp only [Rows.uptoBulkAll, List.length_cons]; omega

theorem KindsB.app {N : Nat} {a b : List K1} {cs : List Value} (h1 : KindsB (enc := enc) (P := P) (W := W) N a (cs.take a.length)) (h2 : KindsB (enc := enc) (P := P) (W := W) N b (cs.drop a.length)) : KindsB (enc := enc) (P := P) (W := W) N (a ++ b) cs := by
  obtain ⟨l1, h1⟩ := h1
  obtain ⟨l2, h2⟩ := h2
  simp only [List.length_take, List.length_drop] at l1 l2
  refine ⟨by simp; omega, fun j v k hj hk => ?_⟩
  rcases Nat.lt_or_ge j a.length with hl | hl
  · rw [List.getElem?_append_left hl] at hk
    exact h1 j v k (by rw [List.getElem?_take_of_lt hl]; exact hj) hk
  · rw [List.getElem?_append_right hl] at hk
    exact h2 (j - a.length) v k (by rw [List.getElem?_drop, show a.length + (j - a.length) = j by omega]; exact hj) hk

theorem trod_kindsB (N : Nat) : ∀ (n : Nat) (fuel : Nat) (t : TypeId) (ks : List K1) (cs : List Value) (x : DataW H × List MemPlace), kAll P n t = some ks → DataW.trod enc P W 0 (fun _ => true) true fuel t cs = some x →
    (x.1.weights P t).all (· ≤ reachBytes) = true → Rows.uptoBulk x.1 ≤ N → KindsB (enc := enc) (P := P) (W := W) N ks cs := by
  intro n
  induction n with
  | zero => intro fuel t ks cs x hk; cases hk
  | succ n ih =>
    intro fuel t ks cs x hk h hw hN
    unfold kAll at hk
    have single : ∀ (k : K1) (v : Value), KB enc P W N k v → KindsB (enc := enc) (P := P) (W := W) N [k] [v] := fun k v hkv => by
      refine ⟨rfl, fun j v' k' hj hk' => ?_⟩
      cases j with
      | zero => simp at hj hk'; subst hj; subst hk'; exact hkv
      | succ j => simp at hj
    cases hu : P.underlying t with
    | none => rw [hu] at hk; cases hk
    | some d =>
      rw [hu] at hk
      cases d with
      | bool =>
        obtain ⟨b, rfl, rfl⟩ := DataW.trod_bool hu h
        simp at hk; subst hk
        exact single _ _ ⟨(fun s hs => by cases hs), fun t e => by cases e⟩
      | int k =>
        obtain ⟨m, rfl, rfl, hwf⟩ := DataW.trod_int hu h
        simp at hk; subst hk
        exact single _ _ ⟨(fun s hs => by cases hs), fun t e => by cases e⟩
      | string =>
        obtain ⟨s, rfl, rfl, hl⟩ := DataW.trod_string hu h
        simp at hk; subst hk
        have : s.size ≤ N := by
          simp only [Rows.uptoBulk, Array.length_toList] at hN
          have e : s.data.size = s.size := rfl
          omega
        exact single _ _ ⟨(fun s' hs => by cases hs; exact this), fun t e => by cases e⟩
      | slice e =>
        have hcs : ∃ a n c, cs = [.slice a n c] := by
          rcases DataW.trod_slice hu h with ⟨rfl, _⟩ | ⟨a, len, cap, _, _, _, _, rfl, _⟩
          · exact ⟨_, _, _, rfl⟩
          · exact ⟨_, _, _, rfl⟩
        obtain ⟨a, m, c, rfl⟩ := hcs
        simp at hk; subst hk
        refine single _ _ ⟨(fun s hs => by cases hs), fun t' e' => ?_⟩
        cases e'
        exact ⟨_, hN, fuel, x, h, hw, rfl⟩
      | struct fs =>
        simp only [Option.bind_eq_some_iff] at hk
        obtain ⟨l, hl, hk⟩ := hk
        split at hk
        · rename_i hlen
          simp at hk; subst hk
          obtain ⟨xs, m, _, rfl, hcl, hxl, hf⟩ := DataW.trod_struct hu h
          simp only [DataW.weights, hu] at hw
          simp only [Rows.uptoBulk] at hN
          have key : ∀ (gs : List Field) (i o : Nat) (l' : List K1), (∀ k f, gs[k]? = some f → fs[i + k]? = some f) → i + gs.length = fs.size → kFields (kAll P n) P gs o = some l' → (cs.drop o).length = l'.length → KindsB (enc := enc) (P := P) (W := W) N l' (cs.drop o) := by
            intro gs
            induction gs with
            | nil =>
              intro i o l' _ _ hl' hlen'
              simp [kFields] at hl'; subst hl'
              have : cs.drop o = [] := List.length_eq_zero_iff.mp (by simpa using hlen')
              rw [this]
              exact ⟨rfl, fun j v k hj => by simp at hj⟩
            | cons f gs ihg =>
              intro i o l' hgs hi hl' hlen'
              simp only [kFields] at hl'
              split at hl'
              · rename_i hoff
                simp only [Option.bind_eq_some_iff] at hl'
                obtain ⟨a, ha, hl'⟩ := hl'
                split at hl'
                · rename_i hal
                  simp only [Option.map_eq_some_iff] at hl'
                  obtain ⟨b, hb, rfl⟩ := hl'
                  have hfi := hgs 0 f rfl
                  rw [Nat.add_zero] at hfi
                  have hlt : i < fs.size := by simp at hi; omega
                  have ht := hf i f hfi
                  rw [List.getElem?_eq_getElem (by omega : i < xs.length)] at ht
                  have hk1 := ih m f.type a _ _ ha ht (all_sub hw (fun y hy => weightsEach_mem (i := i) (t := f.type) (d := xs[i].1) (by simp [hfi]) (by simp [List.getElem?_eq_getElem (by omega : i < xs.length)]) y hy)) (by
                    have := bulkAll_mem (l := xs.map fun x => x.1) (d := xs[i].1) (List.mem_map.2 ⟨xs[i], List.getElem_mem (by omega), rfl⟩)
                    exact Nat.le_trans this (by omega))
                  rw [hoff, ← hal] at hk1
                  refine KindsB.app hk1 ?_
                  rw [List.drop_drop]
                  simp only [List.length_append] at hlen'
                  refine ihg (i + 1) (o + a.length) b (fun k f' hk' => ?_) (by simp at hi; omega) hb (by simp only [List.length_drop] at hlen' ⊢; omega)
                  have := hgs (k + 1) f' (by simpa using hk')
                  rw [show i + (k + 1) = i + 1 + k by omega] at this
                  exact this
                · cases hl'
              · cases hl'
          have := key fs.toList 0 0 l (fun k f hk => by simpa using hk) (by simp) hl (by simp [hcl, hlen])
          simpa using this
        · cases hk
      | array m e =>
        simp only [Option.bind_eq_some_iff] at hk
        obtain ⟨l, hl, hk⟩ := hk
        split at hk
        · rename_i hlen
          simp at hk; subst hk
          obtain ⟨xs, q, _, rfl, hcl, hxl, hf⟩ := DataW.trod_array hu h
          simp only [DataW.weights, hu] at hw
          simp only [Rows.uptoBulk] at hN
          have key : ∀ (r i : Nat), i + r = m → KindsB (enc := enc) (P := P) (W := W) N ((List.range r).flatMap fun _ => l) (cs.drop (i * P.cellsOf e)) := by
            intro r
            induction r with
            | zero =>
              intro i hi
              have : cs.drop (i * P.cellsOf e) = [] := List.drop_eq_nil_of_le (by rw [hcl, ← hlen.2, show i = m by omega]; exact Nat.le_refl _)
              rw [this]
              exact ⟨rfl, fun j v k hj => by simp at hj⟩
            | succ r ihr =>
              intro i hi
              have hlt : i < xs.length := by omega
              have ht := hf i (by omega)
              rw [List.getElem?_eq_getElem hlt] at ht
              have hk1 := ih q e l _ _ hl ht (all_sub hw (fun y hy => weightsAll_mem (d := xs[i].1) (List.mem_map.2 ⟨xs[i], List.getElem_mem hlt, rfl⟩) y hy)) (by
                have := bulkAll_mem (l := xs.map fun x => x.1) (d := xs[i].1) (List.mem_map.2 ⟨xs[i], List.getElem_mem hlt, rfl⟩)
                exact Nat.le_trans this (by omega))
              have hr : (List.range (r + 1)).flatMap (fun _ => l) = l ++ (List.range r).flatMap (fun _ => l) := by
                rw [List.range_succ_eq_map, List.flatMap_cons, List.flatMap_map]
              rw [hr]
              rw [← hlen.1] at hk1
              refine KindsB.app (by rw [← hlen.1]; exact hk1) ?_
              rw [List.drop_drop, ← hlen.1]
              have := ihr (i + 1) (by omega)
              rw [← hlen.1, Nat.add_mul, Nat.one_mul] at this
              exact this
          have := key m 0 (by omega)
          simpa using this
        · cases hk
      | _ => cases hk

/-- A slice of plain structs. -/
theorem rd_sliceB {N : Nat} {t e : TypeId} {n0 : Nat} {ks : List K1} {v : Value} {g : Raw → GV} (ht : P.underlying t = some (.slice e)) (hk : kAll P n0 e = some ks) (hn : ks.length = P.cellsOf e) (h0 : 0 < P.cellsOf e) (hflat : ∀ q, (g q).flat = q.cells ks 0)
    (hok : ∀ q, (∀ j t', ks[j]? = some (.sl t') → (q.v j).oneCell' = true) → (g q).ok) (hsz : ∀ q, (g q).sz = P.cellsOf e) (h : RdTB enc P W t v N) :
    ∃ l : List Raw, SlR W.ph v (P.cellsOf e) (l.map g) ∧ l.length ≤ N ∧ ∀ q ∈ l, Fine enc P W ks q ∧ FineB enc P W N ks q := by
  obtain ⟨fuel, x, hx, hw, hN⟩ := h
  rcases Go.Deep.open_slice ht hx with ⟨hv, rfl⟩ | ⟨a, len, cap, m, n, D, Pl, hv, _, hlc, _, hm, rfl, hel⟩
  · simp at hv; subst hv
    exact ⟨[], ⟨fun x hx => by simp at hx, .inl ⟨rfl, rfl⟩⟩, by simp, fun q hq => by simp at hq⟩
  · simp at hv; subst hv
    simp only [if_true] at hm
    subst hm
    simp only [DataW.weights, ht, List.all_cons, Bool.and_eq_true, decide_eq_true_eq, List.length_map, List.length_range] at hw
    obtain ⟨q, hq⟩ := choose_le (p := fun i q => W.cells? 0 (a.add (i * P.cellsOf e)) (P.cellsOf e) = some (Raw.cells q ks 0) ∧ Fine enc P W ks q ∧ FineB enc P W N ks q) ⟨fun _ => 0, fun _ => ⟨#[]⟩, fun _ => false, fun _ => undef⟩ len fun i hi => by
      obtain ⟨cs', h1, h2⟩ := hel i (by omega)
      have hw' : ((D i).weights P e).all (· ≤ reachBytes) = true := all_sub hw.2 fun y hy => by
        refine List.mem_append_left _ (weightsAll_mem (d := D i) ?_ y hy)
        exact List.mem_map.2 ⟨i, List.mem_range.2 hi, rfl⟩
      obtain ⟨q, hq, hf⟩ := kinds_raw (trod_kinds n0 n e ks cs' _ hk h2 hw')
      have hB := trod_kindsB N n0 n e ks cs' _ hk h2 hw' (by
        show Rows.uptoBulk (D i) ≤ N
        have h5 := bulkAll_mem (d := D i) (l := (List.range len).map D) (List.mem_map.2 ⟨i, List.mem_range.2 hi, rfl⟩)
        simp only [Rows.uptoBulk] at hN
        omega)
      refine ⟨q, by rw [← hq]; exact h1, hf, fun j k hj => ?_⟩
      have := cells_get q ks 0 j k hj
      rw [← hq, Nat.zero_add] at this
      exact hB.2 j _ k this hj
    refine ⟨(List.range len).map q, ⟨fun y hy => ?_, ?_⟩, ?_, fun y hy => ?_⟩
    · rw [List.map_map] at hy
      obtain ⟨i, hi, rfl⟩ := List.mem_map.1 hy
      exact ⟨hok _ fun j t' hj => (hq i (List.mem_range.1 hi)).2.1.slv hj, hsz _⟩
    · refine .inr ⟨a, m, by simp, by simpa using hlc, fun hc => ?_⟩
      obtain ⟨cs0, h1, _⟩ := hel 0 hc
      obtain ⟨_, hl0, hc0⟩ := World.cells?_some h1
      have hblk : ∃ cs e' fz, a.spot = none ∧ W.heap[a.block]? = some (.cells cs e' fz) := by
        have h2 := hc0 0 h0
        rw [List.getElem?_eq_getElem (by omega)] at h2
        have hab : (a.add (0 * P.cellsOf e)).add 0 = a := by simp [Addr.add]
        rw [hab] at h2
        unfold World.cell? at h2
        split at h2
        · rename_i c ty fz hb
          split at h2
          · cases h2
          · rename_i hs
            exact ⟨c, ty, fz, by simpa using hs, hb⟩
        · cases h2
      obtain ⟨cs, e', fz, hsp, hb⟩ := hblk
      refine ⟨cs, e', fz, hsp, hb, fun j v hj => ?_⟩
      rw [List.map_map] at hj
      obtain ⟨i, k, hi, rfl, hkz, hv⟩ := flats_get (z := P.cellsOf e) (g := g ∘ q) (fun i hi => by
        simp only [Function.comp, hflat]
        have := (hq i hi).1
        obtain ⟨_, hl, _⟩ := World.cells?_some this
        exact hl) hj
      obtain ⟨h1, _⟩ := hq i hi
      obtain ⟨_, hl, hc⟩ := World.cells?_some h1
      have h2 := hc k hkz
      simp only [Function.comp, hflat] at hv
      rw [hv] at h2
      unfold World.cell? at h2
      obtain ⟨b, o, sp⟩ := a
      simp only at hsp hb
      subst hsp
      rw [addr_add, addr_add] at h2
      simp only [hb] at h2
      simpa [Nat.add_assoc] using h2
    · simp only [List.length_map, List.length_range]
      have h5 := bulk_len' ((List.range len).map D)
      rw [List.length_map, List.length_range] at h5
      simp only [Rows.uptoBulk] at hN
      omega
    · obtain ⟨i, hi, rfl⟩ := List.mem_map.1 hy
      exact (hq i (List.mem_range.1 hi)).2


theorem rdtb_of {base : Nat} {t e : TypeId} {v : Value} {n : Nat} (ht : P.underlying t = some (.slice e)) (h : RdB enc P W t v n) (hv : Value.okWide P W .any base t v) : RdTB enc P W t v n := by
  obtain ⟨fuel, x, hx, hw, hn⟩ := h
  have hw1 : ∃ w, v.cells.toList = [w] := by
    rcases DataW.trod_slice ht hx with ⟨h1, _⟩ | ⟨a, len, cap, _, _, _, _, h1, _⟩
    · exact ⟨_, h1⟩
    · exact ⟨_, h1⟩
  obtain ⟨w, hcl⟩ := hw1
  have := cells_one hcl (ok_noagg ht rfl hv)
  subst this
  rw [hcl] at hx
  exact ⟨fuel, x, hx, hw, hn⟩
theorem FineB.str {N : Nat} {ks : List K1} {q : Raw} (h : FineB enc P W N ks q) {j : Nat} (hk : ks[j]? = some .s) : (q.y j).size ≤ N := (h j _ hk).1 _ rfl
theorem FineB.rd {N : Nat} {ks : List K1} {q : Raw} (h : FineB enc P W N ks q) {j : Nat} {t : TypeId} (hk : ks[j]? = some (.sl t)) : ∃ m, m ≤ N ∧ RdTB enc P W t (q.v j) m := (h j _ hk).2 t rfl
end
end Go.Proofs.YtdpknchgoeboaaaGreat.Vc

/- TreeFrom, the walk. -/
set_option linter.unusedVariables false
set_option linter.unusedSimpArgs false
set_option maxRecDepth 100000
namespace Go.Proofs.YtdpknchgoeboaaaGreat.Vc
open Go Go.Proofs

/-- Rows that came in. -/
structure RowsIn (u : PH) (v : Value) (ts : List TreeNode) (l : List TN) (N : Nat) : Prop where
  rows : SlR u v 4 (ts.map gTreeNode)
  told : TsOk u ts l
  few : l.length ≤ N
  attrs : ∀ r ∈ l, r.attrs.length ≤ N
  size : ∀ r ∈ l, ∀ a ∈ r.attrs, a.key.size ≤ 140737488355328 ∧ a.value.size ≤ 140737488355328
  name : ∀ r ∈ l, r.name.size ≤ 140737488355328
  wf : ∀ r ∈ l, (Lit.int .i64 r.node).wf = true

end Go.Proofs.YtdpknchgoeboaaaGreat.Vc

/- The code of some functions of the program, its types resolved: printed by a program of this claim. -/
set_option linter.unusedVariables false
set_option maxRecDepth 100000
namespace Go.Proofs.YtdpknchgoeboaaaGreat.Vc
open Go Go.Proofs

abbrev f_tree_Tree_Node : Nat := 11
def c_tree_Tree_Node : Cd :=
 (.seq (.rg [⟨none, [(some 4, .new 39 (.c (.s (.int .i64 0)) (.c (.s (.int .i64 0)) (.c (.s (.string ⟨#[]⟩)) (.c (.s (.slice none 0 0)) .u))))), (some 5, .mv (.c (.bool false)))]⟩] [0, 1, 4])
 (.seq (.seq (.rg [⟨none, [(some 6, .mv (.t 0)), (some 7, .call 28 [(.t 6)]), (some 8, .mv (.t 7))]⟩, ⟨some (8, false), [(some 9, .mv (.t 0)), (some 10, .nilc (.t 9)), (some 11, .fldA (.t 10) 0 0), (some 12, .ld (.t 11) 1 false), (some 13, .mv (.t 1)), (some 14, .mlk (some .i64) (.t 12) (.t 13) (.pointer none) false), (some 15, .eqA false 90 (.t 14) (.c (.pointer none)))]⟩, ⟨none, [(some 16, .pick (.t 8) (.c (.bool true)) (.t 15))]⟩] [0, 1, 4, 16])
 (.ite (.t 16)
 (.seq (.rg [⟨none, [(some 17, .bld (.c (.s (.int .i64 0)) (.c (.s (.int .i64 0)) (.c (.s (.string ⟨#[]⟩)) (.c (.s (.slice none 0 0)) .u)))) []), (none, .st (.t 4) (.t 17) 4), (some 5, .mv (.c (.bool false)))]⟩] [4, 5])
 .ret)
 .skip))
 (.seq (.rg [⟨none, [(some 18, .mv (.t 0)), (some 19, .mv (.t 1)), (some 20, .call 31 [(.t 18), (.t 19)]), (none, .st (.t 4) (.t 20) 4), (some 5, .mv (.c (.bool true)))]⟩] [4, 5])
 .ret)))
theorem k_tree_Tree_Node : Ok Tryz.prog 11 c_tree_Tree_Node 21 [] [.cell 4 4 true, .tmp 5] := Ok.mk' Tryz.func11 (by kernel_rfl) (by kernel_rfl) (by kernel_rfl)

abbrev f_tree_Tree_Below : Nat := 53
def c_tree_Tree_Below : Cd :=
 (.seq (.rg [⟨none, [(some 6, .mv (.c (.bool false)))]⟩] [0, 1, 2])
 (.seq (.rg [⟨none, [(some 7, .mv (.t 0)), (some 8, .call 28 [(.t 7)]), (some 9, .un .not (.t 8)), (some 10, .mv (.t 9))]⟩, ⟨some (10, true), [(some 11, .mv (.t 0)), (some 12, .nilc (.t 11)), (some 13, .fldA (.t 12) 0 0), (some 14, .ld (.t 13) 1 false), (some 15, .mv (.t 1)), (some 16, .mlk (some .i64) (.t 14) (.t 15) (.pointer none) false), (some 17, .eqA true 90 (.t 16) (.c (.pointer none)))]⟩, ⟨none, [(some 18, .pick (.t 10) (.t 17) (.c (.bool false))), (some 19, .mv (.t 18))]⟩, ⟨some (19, true), [(some 20, .mv (.t 0)), (some 21, .nilc (.t 20)), (some 22, .fldA (.t 21) 0 0), (some 23, .ld (.t 22) 1 false), (some 24, .mv (.t 2)), (some 25, .mlk (some .i64) (.t 23) (.t 24) (.pointer none) false), (some 26, .eqA true 90 (.t 25) (.c (.pointer none)))]⟩, ⟨none, [(some 27, .pick (.t 19) (.t 26) (.c (.bool false))), (some 28, .mv (.t 27))]⟩, ⟨some (28, true), [(some 29, .mv (.t 0)), (some 30, .mv (.t 1)), (some 31, .mv (.t 2)), (some 32, .call 73 [(.t 29), (.t 30), (.t 31)])]⟩, ⟨none, [(some 33, .pick (.t 28) (.t 32) (.c (.bool false))), (some 6, .mv (.t 33))]⟩] [6])
 .ret))
theorem k_tree_Tree_Below : Ok Tryz.prog 53 c_tree_Tree_Below 34 [] [.tmp 6] := Ok.mk' Tryz.func53 (by kernel_rfl) (by kernel_rfl) (by kernel_rfl)

abbrev f_tree_Tree_Attr : Nat := 48
def c_tree_Tree_Attr : Cd :=
 (.seq (.rg [⟨none, [(some 6, .mv (.c (.string ⟨#[]⟩))), (some 7, .mv (.c (.bool false)))]⟩] [0, 1, 2])
 (.seq (.seq (.rg [⟨none, [(some 10, .mv (.t 0)), (some 11, .call 28 [(.t 10)]), (some 12, .mv (.t 11))]⟩, ⟨some (12, false), [(some 13, .mv (.t 0)), (some 14, .nilc (.t 13)), (some 15, .fldA (.t 14) 0 0), (some 16, .ld (.t 15) 1 false), (some 17, .mv (.t 1)), (some 18, .mlk (some .i64) (.t 16) (.t 17) (.pointer none) false), (some 19, .eqA false 90 (.t 18) (.c (.pointer none)))]⟩, ⟨none, [(some 20, .pick (.t 12) (.c (.bool true)) (.t 19))]⟩] [0, 1, 2, 20])
 (.ite (.t 20)
 (.seq (.rg [⟨none, [(some 6, .mv (.c (.string ⟨#[]⟩))), (some 7, .mv (.c (.bool false)))]⟩] [6, 7])
 .ret)
 .skip))
 (.seq (.rg [⟨none, [(some 22, .mv (.t 0)), (some 23, .nilc (.t 22)), (some 24, .fldA (.t 23) 0 0), (some 25, .ld (.t 24) 1 false), (some 26, .mv (.t 1)), (some 27, .mlk (some .i64) (.t 25) (.t 26) (.pointer none) false), (some 28, .nilc (.t 27)), (some 29, .fldA (.t 28) 1 2), (some 30, .ld (.t 29) 1 false), (some 31, .mv (.t 2)), (some 32, .mlk none (.t 30) (.t 31) (.string ⟨#[]⟩) true), (some 21, .mv (.t 32)), (some 33, .ext (.t 21) 0), (some 34, .ext (.t 21) 1), (some 8, .mv (.t 33)), (some 9, .mv (.t 34))]⟩] [8, 9])
 (.seq (.rg [⟨none, [(some 35, .mv (.t 8)), (some 36, .mv (.t 9)), (some 6, .mv (.t 35)), (some 7, .mv (.t 36))]⟩] [6, 7])
 .ret))))
theorem k_tree_Tree_Attr : Ok Tryz.prog 48 c_tree_Tree_Attr 37 [] [.tmp 6, .tmp 7] := Ok.mk' Tryz.func48 (by kernel_rfl) (by kernel_rfl) (by kernel_rfl)

end Go.Proofs.YtdpknchgoeboaaaGreat.Vc

/- A tree asked for a node, and whether one is below another. -/
set_option linter.unusedVariables false
set_option linter.unusedSimpArgs false
set_option maxRecDepth 100000
namespace Go.Proofs.YtdpknchgoeboaaaGreat.Vc
open Go Go.Proofs

section
variable {w : World} {u : PH} {L : Lay} {T : PT}
theorem Node_spec (hu : u.le w) (hT : TM u L T) (n : Int) (hsm : ∀ x, T.get n = some x → x.small) :
    Spec Tryz.prog f_tree_Tree_Node [ptr (L .t), .int .i64 n] PH.no w fun rs m' => (T.get n = none → rs = [gTreeNode zTreeNode, .s (.bool false)]) ∧ ∀ x, T.get n = some x → ∃ v, rs = [gTreeNode ⟨n, x.parent, x.name, v⟩, .s (.bool true)] ∧ SlO m' v 41 2 ((attrsOf x).map gAttr) := by
  refine spec_of k_tree_Tree_Node [.g (.s (ptr (L .t))), .g (.s (.int .i64 n))] (by simp) (by simp [AV.ok, GV.ok, Value.oneCell', ptr]) ?_
  have hk : ∀ {l : List PH}, KN (⟨Tryz.prog, 21, w, PH.no⟩ : Ctx).u0 l u := kn_u hu
  simp (maxSteps := 2000000) only [c_tree_Tree_Node, vc_seq, vc_rg, thenQ_n, kKeep_eq, segs_nil, segs_n, ops_nil, ops_cons, vcOp, ev, look, updL, put_mk, keep_mk, keepL, Value.oneCell', cond_true, Nat.reduceEqDiff, ↓reduceIte, reduceCtorEq, Nat.zero_add, Bool.true_and, true_and, initF, initP, gTreeNode_zero, ptr]
  refine call_is _ [.s (.bool false)] rfl rfl (fun w' vs hv hw => ?_) ?_
  · obtain ⟨vs, rfl, _, hv⟩ := argsV_g hv
    obtain rfl := argsV_nil hv
    intro _
    exact none_spec (fun b o h => hw b o (by rw [u0_no]; exact hu b o h)) hT
  simp (maxSteps := 2000000) only [retS, segs_g, ops_nil, ops_cons, vcOp, ev, look, put_mk, ↓reduceIte, reduceCtorEq, Nat.add_zero, ↓br_ff]
  refine ld_of _ (hT.s_map hk) rfl ?_
  simp (maxSteps := 2000000) only [ops_cons, vcOp, ev, look, put_mk, Nat.reduceEqDiff, ↓reduceIte, reduceCtorEq]
  refine hT.lk hk n ?_
  cases hx : T.get n with
  | none =>
    simp (maxSteps := 2000000) only [ops_cons, vcOp, ev, look, put_mk, Value.oneCell', cond_true, ↓reduceIte, reduceCtorEq, true_imp_iff, false_imp_iff, nptr_none]
    refine eq_of eqNode0 ?_
    simp (maxSteps := 2000000) only [vc_ret, vc_seq, vc_rg, vc_ite, thenQ_n, thenQ_r, kKeep_eq, finQ_r, segs_nil, segs_n, ops_nil, ops_cons, vcOp, ev, evL, gvL, look, updL, put_mk, put_mk0, keep_mk, keepL, Value.oneCell', cond_true, Nat.reduceEqDiff, ↓reduceIte, reduceCtorEq, Bool.and_true, Bool.true_and, true_and, and_true, List.map_nil, ↓br_tt, ↓br_ft, Bool.bne_false, GV.bldT, GV.bldC, getT_nil, setT_nil, gTreeNode_sz, gTreeNode_same]
    refine fin_g (rs := [gTreeNode zTreeNode, .s (.bool false)]) rfl ⟨rfl, fun x => trivial⟩
  | some x =>
    simp (maxSteps := 2000000) only [ops_cons, vcOp, ev, look, put_mk, Value.oneCell', cond_true, ↓reduceIte, reduceCtorEq, Bool.true_and, true_and, false_imp_iff, nptr_some]
    refine eq_of (eqNode _) ?_
    simp (maxSteps := 2000000) only [vc_skip, vc_seq, vc_rg, vc_ite, thenQ_n, kKeep_eq, segs_nil, segs_n, ops_nil, ops_cons, vcOp, ev, look, put_mk, keep_mk, keepL, Value.oneCell', cond_true, Nat.reduceEqDiff, ↓reduceIte, reduceCtorEq, ↓br_ft, Bool.bne_false]
    refine call_ownm rfl rfl (Q := fun rs m' => ∃ v, rs = [gTreeNode ⟨n, x.parent, x.name, v⟩] ∧ SlO m' v 41 2 ((attrsOf x).map gAttr)) (fun w' vs hv hw _ _ => ?_) fun rs m1 _ hq _ => ?_
    · obtain ⟨vs, rfl, _, hv⟩ := argsV_g hv
      obtain ⟨vs, rfl, _, hv⟩ := argsV_g hv
      obtain rfl := argsV_nil hv
      exact told_spec w' u (fun b o h => hw b o (by rw [u0_no]; exact hu b o h)) L T hT n x hx (hsm x hx)
    obtain ⟨v, rfl, hv⟩ := hq
    simp (maxSteps := 2000000) only [retS, uni_no_r, vc_ret, thenQ_n, kKeep_eq, finQ_r, segs_nil, ops_nil, ops_cons, vcOp, ev, look, updL, put_mk, put_mk0, keep_mk, keepL, Value.oneCell', cond_true, Nat.reduceEqDiff, ↓reduceIte, reduceCtorEq, Bool.and_true, Bool.true_and, true_and, and_true, getT_nil, setT_nil, gTreeNode_sz, gTreeNode_same]
    refine fin_m (rs := [gTreeNode ⟨n, x.parent, x.name, v⟩, .s (.bool true)]) _ rfl (fun _ _ h => h) fun y hy => ?_
    cases hy
    exact ⟨v, rfl, hv⟩
theorem BelowX_spec (hu : u.le w) (hT : TM u L T) (n a : Int) (hl : T.nodes.length < 9223372036854775800) : Spec Tryz.prog f_tree_Tree_Below [ptr (L .t), .int .i64 n, .int .i64 a] PH.no w fun rs _ => rs = [.s (.bool (T.has n && T.has a && T.below n a))] := by
  refine spec_val k_tree_Tree_Below (Qf := fun rs => rs = [.s (.bool (T.has n && T.has a && T.below n a))]) [.g (.s (ptr (L .t))), .g (.s (.int .i64 n)), .g (.s (.int .i64 a))] (by simp) (by simp [AV.ok, GV.ok, Value.oneCell', ptr]) ?_
  have hk : ∀ {l : List PH}, KN (⟨Tryz.prog, 34, w, PH.no⟩ : Ctx).u0 l u := kn_u hu
  simp (maxSteps := 2000000) only [c_tree_Tree_Below, vc_seq, vc_rg, thenQ_n, kKeep_eq, segs_nil, segs_n, ops_nil, ops_cons, vcOp, ev, look, put_mk, keep_mk, keepL, Value.oneCell', cond_true, Nat.reduceEqDiff, Nat.reduceAdd, ↓reduceIte, reduceCtorEq, Nat.zero_add, initF, initP, Int.reduceAdd, ptr]
  refine call_is _ [.s (.bool false)] rfl rfl (fun w' vs hv hw => ?_) ?_
  · obtain ⟨vs, rfl, _, hv⟩ := argsV_g hv
    obtain rfl := argsV_nil hv
    intro _
    exact none_spec (fun b o h => hw b o (by rw [u0_no]; exact hu b o h)) hT
  simp (maxSteps := 2000000) only [retS, segs_g, ops_nil, ops_cons, vcOp, ev, look, put_mk, unV, ↓reduceIte, reduceCtorEq, Nat.add_zero, Bool.not_false, ↓br_tt]
  refine ld_of _ (hT.s_map hk) rfl ?_
  simp (maxSteps := 2000000) only [ops_cons, vcOp, ev, look, put_mk, Nat.reduceEqDiff, ↓reduceIte, reduceCtorEq]
  refine hT.lk hk n ?_
  cases hx : T.get n with
  | none =>
    simp (maxSteps := 2000000) only [ops_cons, vcOp, ev, look, put_mk, Value.oneCell', cond_true, ↓reduceIte, nptr_none]
    refine eq_of eqNode0 ?_
    simp (maxSteps := 2000000) only [vc_ret, thenQ_n, kKeep_eq, segs_nil, segs_n, segs_g, ops_nil, ops_cons, vcOp, RO.isGh, skip_mk, skipL, ev, look, put_mk, keep_mk, keepL, Value.oneCell', cond_true, cond_false, Nat.reduceEqDiff, ↓reduceIte, Bool.not_true, finW_r, resL, resOne, ↓br_tt, ↓br_ft, Bool.bne_true]
    rw [show T.has n = false by rw [PT.has, hx]; rfl]; rfl
  | some x =>
    simp (maxSteps := 2000000) only [ops_cons, vcOp, ev, look, put_mk, Value.oneCell', cond_true, ↓reduceIte, nptr_some]
    refine eq_of (eqNode _) ?_
    simp (maxSteps := 2000000) only [segs_n, segs_g, ops_nil, ops_cons, vcOp, ev, look, put_mk, Value.oneCell', cond_true, Nat.reduceEqDiff, ↓reduceIte, reduceCtorEq, Nat.add_zero, Bool.not_false, ↓br_tt, Bool.bne_true]
    refine ld_of _ (hT.s_map hk) rfl ?_
    simp (maxSteps := 2000000) only [ops_cons, vcOp, ev, look, put_mk, Nat.reduceEqDiff, ↓reduceIte, reduceCtorEq]
    refine hT.lk hk a ?_
    cases hy : T.get a with
    | none =>
      simp (maxSteps := 2000000) only [ops_cons, vcOp, ev, look, put_mk, Value.oneCell', cond_true, ↓reduceIte, nptr_none]
      refine eq_of eqNode0 ?_
      simp (maxSteps := 2000000) only [vc_ret, thenQ_n, kKeep_eq, segs_nil, segs_n, segs_g, ops_nil, ops_cons, vcOp, RO.isGh, skip_mk, skipL, ev, look, put_mk, keep_mk, keepL, Value.oneCell', cond_true, cond_false, Nat.reduceEqDiff, ↓reduceIte, Bool.not_true, finW_r, resL, resOne, ↓br_tt, ↓br_ft, Bool.bne_true]
      rw [show T.has a = false by rw [PT.has, hy]; rfl, Bool.and_false]; rfl
    | some y =>
      simp (maxSteps := 2000000) only [ops_cons, vcOp, ev, look, put_mk, Value.oneCell', cond_true, ↓reduceIte, nptr_some]
      refine eq_of (eqNode _) ?_
      simp (maxSteps := 2000000) only [segs_n, segs_g, ops_nil, ops_cons, vcOp, ev, look, put_mk, Value.oneCell', cond_true, Nat.reduceEqDiff, ↓reduceIte, reduceCtorEq, Bool.not_false, ↓br_tt, Bool.bne_true]
      refine call_is _ [.s (.bool (T.below n a))] rfl rfl (fun w' vs hv hw => ?_) ?_
      · obtain ⟨vs, rfl, _, hv⟩ := argsV_g hv
        obtain ⟨vs, rfl, _, hv⟩ := argsV_g hv
        obtain ⟨vs, rfl, _, hv⟩ := argsV_g hv
        obtain rfl := argsV_nil hv
        intro _
        exact below_spec (fun b o h => hw b o (by rw [u0_no]; exact hu b o h)) hT n a hl
      simp (maxSteps := 2000000) only [retS, vc_ret, thenQ_n, kKeep_eq, segs_nil, segs_n, ops_nil, ops_cons, vcOp, ev, look, put_mk, keep_mk, keepL, Value.oneCell', cond_true, Nat.reduceEqDiff, ↓reduceIte, finW_r, resL, resOne, ↓br_tt]
      rw [show T.has a = true by rw [PT.has, hy]; rfl, show T.has n = true by rw [PT.has, hx]; rfl]; rfl
end
end Go.Proofs.YtdpknchgoeboaaaGreat.Vc

/- The order of children: what their comparator tells, walked with the kit's tactics (the sort of the kit asks how many draws and blocks it takes). -/
set_option maxRecDepth 100000
namespace Go.Proofs.YtdpknchgoeboaaaGreat.Vc
open Go Go.Proofs Go.Lib
theorem isNaN_s (s : ByteArray) (w : World) : Calls Tryz.prog 69 #[.string s] w fun e w' => e = .returned (.bool false) ∧ w' = w := by
  go_enter Tryz.func69, Tryz.ntmps69
  go_wp2
  go_ret
  exact ⟨by simp, rfl⟩
theorem isNaN_i (n : Int) (w : World) : Calls Tryz.prog 70 #[.int .i64 n] w fun e w' => e = .returned (.bool false) ∧ w' = w := by
  go_enter Tryz.func70, Tryz.ntmps70
  go_wp2
  go_ret
  exact ⟨by simp, rfl⟩
set_option maxHeartbeats 1000000 in
theorem compare_i (x y : Int) (w : World) : Calls Tryz.prog 37 #[.int .i64 x, .int .i64 y] w fun e w' => e = .returned (.int .i64 (Lib.compareInt x y)) ∧ w' = w := by
  go_enter Tryz.func37, Tryz.ntmps37
  go_wp2_with (go_at_call 70; refine (isNaN_i _ _).mono ?_; rintro e w' ⟨rfl, hw⟩; rw [hw])
  all_goals (go_ret; refine ⟨?_, rfl⟩; unfold Lib.compareInt; (repeat' split) <;> first | rfl | (exfalso; omega))
theorem gtr_s (t : TypeId) (x y : ByteArray) (w : World) : Sem.run Tryz.prog (binOp .gtr t (.string x) (.string y)) w = .ok (.bool (!(Op.bytesLess x.toList y.toList || decide (x = y)))) w := by
  have e := toList_eq' x y
  simp [binOp, Op.stringOp, e]
def cmpS (x y : ByteArray) : Int := if Op.bytesLess x.toList y.toList = true then -1 else if x = y then 0 else 1
set_option maxHeartbeats 1000000 in
theorem compare_s (x y : ByteArray) (w : World) : Calls Tryz.prog 36 #[.string x, .string y] w fun e w' => e = .returned (.int .i64 (cmpS x y)) ∧ w' = w := by
  go_enter Tryz.func36, Tryz.ntmps36
  go_wp2_with (first | (go_at_call 69; refine (isNaN_s _ _).mono ?_; rintro e w' ⟨rfl, hw⟩; rw [hw]) | rw [gtr_s])
  all_goals (go_ret; refine ⟨?_, rfl⟩; unfold cmpS; simp_all)
def orV (a b : Int) : Int := if a = 0 then b else a
set_option maxHeartbeats 1000000 in
theorem or2 (a b : Int) (blk cap : Nat) (w : World) (h0 : w.cell? ⟨blk, 0, none⟩ = some (.int .i64 a)) (h1 : w.cell? ⟨blk, 1, none⟩ = some (.int .i64 b)) : Calls Tryz.prog 35 #[.slice (some ⟨blk, 0, none⟩) 2 cap] w fun e w' => e = .returned (.int .i64 (orV a b)) ∧ w' = w := by
  go_enter Tryz.func35, Tryz.ntmps35
  go_wp2
  refine wp_loop_rounds 3 ?_
  rw [rounds_succ]
  go_wp2
  · go_ret
    refine ⟨?_, rfl⟩
    simp_all [orV]
  · rw [rounds_succ]
    go_wp2
    · go_ret
      refine ⟨?_, rfl⟩
      simp_all [orV]
    · rw [rounds_succ]
      go_wp2
      go_ret
      refine ⟨?_, rfl⟩
      simp_all [orV]
open Go.Sort Go.Shelf
def HidE (p : Prop) : Prop := p
theorem new_blk (W : World) (o : Obj) : (W.alloc o).heap[W.heap.size]? = some o := Array.getElem?_push_size
theorem new_cell0 (W : World) (a b : Value) : (W.alloc (.cells #[a, b] 3)).cell? ⟨W.heap.size, 0, none⟩ = some a := by
  rw [World.cell?, new_blk]; rfl
theorem new_cell1 (W : World) (a b : Value) : (W.alloc (.cells #[a, b] 3)).cell? ⟨W.heap.size, 1, none⟩ = some b := by
  rw [World.cell?, new_blk]; rfl
theorem two_push {α : Type} (h : Array α) (a b : α) : (h.push a).push b = h ++ #[a, b] := by
  rw [Array.push_eq_append, Array.push_eq_append, Array.append_assoc]; rfl
theorem two_at0 {α : Type} (h : Array α) (a b : α) : (h ++ #[a, b])[h.size]? = some a := by
  rw [Array.getElem?_append_right (Nat.le_refl _)]; simp
theorem two_at1 {α : Type} (h : Array α) (a b : α) : (h ++ #[a, b])[h.size + 1]? = some b := by
  rw [Array.getElem?_append_right (by omega)]; simp
set_option maxHeartbeats 1000000 in
theorem closureC (x y : ByteArray × Int) (W : World) : Calls Tryz.prog 34 #[.agg #[.string x.1, .int .i64 x.2], .agg #[.string y.1, .int .i64 y.2]] W fun e w' => e = .returned (.int .i64 (orV (cmpS x.1 y.1) (Lib.compareInt x.2 y.2))) ∧ ∃ q os', w' = grow (W.drewN q) os' := by
  go_enter Tryz.func34, Tryz.ntmps34
  go_wp2_with (first | (go_at_call 36; refine (compare_s _ _ _).mono ?_; rintro e w' ⟨rfl, rfl⟩) | (go_at_call 37; refine (compare_i _ _ _).mono ?_; rintro e w' ⟨rfl, rfl⟩))
  refine wp_region_still_tail 10 (show Tryz.prog.follows .mixedOrders = true by kernel_rfl) (by kernel_rfl) ?_
  simp only [List.take_succ_cons, List.take_zero, List.drop_succ_cons, List.drop_zero]
  generalize hW1 : World.mk _ _ _ _ _ = W1
  have e1 : W1 = grow (W.drewN 1) #[.cells #[Value.string x.1, Value.int IntKind.i64 x.2] 46, .cells #[Value.string y.1, Value.int IntKind.i64 y.2] 46] := by
    rw [← hW1]
    show World.mk ((W.heap.push _).push _) _ _ _ _ = World.mk (W.heap ++ #[_, _]) _ _ _ _
    rw [two_push]
    rfl
  have b0 : W1.heap[W.heap.size]? = some (.cells #[Value.string x.1, Value.int IntKind.i64 x.2] 46) := by rw [e1]; exact two_at0 _ _ _
  have b1 : W1.heap[W.heap.size + 1]? = some (.cells #[Value.string y.1, Value.int IntKind.i64 y.2] 46) := by rw [e1]; exact two_at1 _ _ _
  clear hW1
  replace e1 : HidE _ := e1
  have c0 : W1.cell? ⟨W.heap.size, 0, none⟩ = some (.string x.1) := by simp [World.cell?, b0]
  have c1 : W1.cell? ⟨W.heap.size, 1, none⟩ = some (.int .i64 x.2) := by simp [World.cell?, b0]
  have c2 : W1.cell? ⟨W.heap.size + 1, 0, none⟩ = some (.string y.1) := by simp [World.cell?, b1]
  have c3 : W1.cell? ⟨W.heap.size + 1, 1, none⟩ = some (.int .i64 y.2) := by simp [World.cell?, b1]
  clear b0 b1
  repeat still_step
  still_call (compare_s x.1 y.1 W1)
  repeat still_step
  still_call (compare_i x.2 y.2 W1)
  repeat still_step
  refine wpStill_nil ?_
  go_wp2_with (go_at_call 35; refine (or2 (cmpS x.1 y.1) (Lib.compareInt x.2 y.2) W1.heap.size _ _ (new_cell0 _ _ _) (new_cell1 _ _ _)).mono ?_; rintro e w' ⟨rfl, rfl⟩)
  go_ret
  refine ⟨rfl, ?_⟩
  have e2 : W1 = _ := e1
  rw [alloc_eq_grow, e2, grow_grow]
  exact ⟨1, _, rfl⟩
end Go.Proofs.YtdpknchgoeboaaaGreat.Vc

/-
  DERIVED: THE SHELF's CONTRACTS AT THIS DUMP, IN PLAIN WORDS (tools/lay-plain.mjs out of 'TryzShelf.lean', which tools/lay-shelf.mjs wrote): THE SAME DECLARATIONS UNDER THE SAME NAMES: 'import', 'namespace', 'open', 'def', 'theorem' AND NOTHING ELSE: no command of the shelf's: FOR A HAND-IN. Each laying: the table of numbers ('.._ren') and one theorem, a field a fact of the dump's own or the kernel's comparison; each contract: ONE APPLICATION.
-/
namespace Go.Proofs
open Go.Shelf
def Tryz.sortC_ren : Go.Shelf.Ren := ⟨fun | 6 => 33 | 15 => 68 | 14 => 67 | 28 => 91 | 29 => 92 | 20 => 83 | 21 => 84 | 22 => 85 | 23 => 86 | 24 => 87 | 25 => 88 | 26 => 89 | 27 => 90 | 46 => 107 | 47 => 108 | 48 => 109 | 49 => 110 | 50 => 111 | 57 => 124 | n => n, fun | 22 => 42 | 24 => 46 | 25 => 104 | 3 => 3 | 39 => 132 | 0 => 0 | 53 => 154 | 55 => 156 | 4 => 4 | 46 => 148 | 45 => 147 | 50 => 80 | 5 => 5 | 9 => 9 | 66 => 170 | 70 => 174 | 76 => 183 | 77 => 184 | n => n, fun | n => n⟩
theorem Tryz.sortC : Go.Proofs.SlLaysF0.n6 Tryz.prog Tryz.sortC_ren := {
  mixed := by kernel_rfl
  f6 := ⟨Tryz.f33.name, by decide, Tryz.func33.trans (congrArg some (by kernel_rfl))⟩
  f14 := ⟨Tryz.f67.name, by decide, Tryz.func67.trans (congrArg some (by kernel_rfl))⟩
  f15 := Tryz.func68.trans (congrArg some (by kernel_rfl))
  f20 := ⟨Tryz.f83.name, by decide, Tryz.func83.trans (congrArg some (by kernel_rfl))⟩
  f21 := ⟨Tryz.f84.name, by decide, Tryz.func84.trans (congrArg some (by kernel_rfl))⟩
  f22 := ⟨Tryz.f85.name, by decide, Tryz.func85.trans (congrArg some (by kernel_rfl))⟩
  f23 := ⟨Tryz.f86.name, by decide, Tryz.func86.trans (congrArg some (by kernel_rfl))⟩
  f24 := ⟨Tryz.f87.name, by decide, Tryz.func87.trans (congrArg some (by kernel_rfl))⟩
  f25 := ⟨Tryz.f88.name, by decide, Tryz.func88.trans (congrArg some (by kernel_rfl))⟩
  f26 := ⟨Tryz.f89.name, by decide, Tryz.func89.trans (congrArg some (by kernel_rfl))⟩
  f27 := ⟨Tryz.f90.name, by decide, Tryz.func90.trans (congrArg some (by kernel_rfl))⟩
  f28 := Tryz.func91.trans (congrArg some (by kernel_rfl))
  f29 := Tryz.func92.trans (congrArg some (by kernel_rfl))
  f46 := ⟨Tryz.f107.name, by decide, Tryz.func107.trans (congrArg some (by kernel_rfl))⟩
  f47 := Tryz.func108.trans (congrArg some (by kernel_rfl))
  f48 := Tryz.func109.trans (congrArg some (by kernel_rfl))
  f49 := ⟨Tryz.f110.name, by decide, Tryz.func110.trans (congrArg some (by kernel_rfl))⟩
  f50 := ⟨Tryz.f111.name, by decide, Tryz.func111.trans (congrArg some (by kernel_rfl))⟩
  f57 := ⟨Tryz.f124.name, by decide, Tryz.func124.trans (congrArg some (by kernel_rfl))⟩
  t0 := Tryz.underlying0
  a0 := Tryz.isAgg0
  z0 := Tryz.sizeOf0
  v0 := Tryz.zeroValue0
  t3 := Tryz.underlying3
  a3 := Tryz.isAgg3
  z3 := Tryz.sizeOf3
  v3 := Tryz.zeroValue3
  t4 := Tryz.underlying4
  a4 := Tryz.isAgg4
  z4 := Tryz.sizeOf4
  v4 := Tryz.zeroValue4
  t5 := Tryz.underlying5
  a5 := Tryz.isAgg5
  z5 := Tryz.sizeOf5
  v5 := Tryz.zeroValue5
  t9 := Tryz.underlying9
  a9 := Tryz.isAgg9
  z9 := Tryz.sizeOf9
  v9 := Tryz.zeroValue9
  t22 := Tryz.underlying42
  a22 := Tryz.isAgg42
  z22 := Tryz.sizeOf42
  v22 := Tryz.zeroValue42
  t25 := Tryz.underlying104
  a25 := Tryz.isAgg104
  z25 := Tryz.sizeOf104
  v25 := Tryz.zeroValue104
  t39 := Tryz.underlying132
  a39 := Tryz.isAgg132
  z39 := Tryz.sizeOf132
  v39 := Tryz.zeroValue132
  t45 := Tryz.underlying147
  a45 := Tryz.isAgg147
  z45 := Tryz.sizeOf147
  v45 := Tryz.zeroValue147
  t46 := Tryz.underlying148
  a46 := Tryz.isAgg148
  z46 := Tryz.sizeOf148
  v46 := Tryz.zeroValue148
  t50 := Tryz.underlying80
  a50 := Tryz.isAgg80
  z50 := Tryz.sizeOf80
  v50 := Tryz.zeroValue80
  t53 := Tryz.underlying154
  a53 := Tryz.isAgg154
  z53 := Tryz.sizeOf154
  v53 := Tryz.zeroValue154
  t55 := Tryz.underlying156
  a55 := Tryz.isAgg156
  z55 := Tryz.sizeOf156
  v55 := Tryz.zeroValue156
  t66 := Tryz.underlying170
  a66 := Tryz.isAgg170
  z66 := Tryz.sizeOf170
  v66 := Tryz.zeroValue170
  t70 := Tryz.underlying174
  a70 := Tryz.isAgg174
  z70 := Tryz.sizeOf174
  v70 := Tryz.zeroValue174
  t76 := Tryz.underlying183
  a76 := Tryz.isAgg183
  z76 := Tryz.sizeOf183
  v76 := Tryz.zeroValue183
  t77 := Tryz.underlying184
  a77 := Tryz.isAgg184
  z77 := Tryz.sizeOf184
  v77 := Tryz.zeroValue184 }
end Go.Proofs

/- Children are put in order: the kit's contract of slices.SortFunc at structs, as a row of one's own memory. -/
set_option linter.unusedVariables false
set_option linter.unusedSimpArgs false
set_option maxRecDepth 100000
namespace Go.Proofs.YtdpknchgoeboaaaGreat.Vc
open Go Go.Proofs Go.Sort Go.Shelf Go.Lib

instance : Inhabited Child := ⟨zChild⟩
def encC (c : Child) : List Value := [.string c.name, .int .i64 c.node]
def cfC (x y : Child) : Int := orV (cmpS x.name y.name) (Lib.compareInt x.node y.node)
/-- By name, then by number. -/
def ltC (x y : Child) : Bool := ltOf cfC x y
theorem ltC_iff (x y : Child) : ltC x y = true ↔ x.name.data.toList < y.name.data.toList ∨ (x.name = y.name ∧ x.node < y.node) := by
  have hd : ∀ b : ByteArray, b.toList = b.data.toList := fun b => ByteArray.toList_eq b
  have hs : cmpS x.name y.name = if x.name.data.toList < y.name.data.toList then -1 else if x.name = y.name then 0 else 1 := by
    unfold cmpS
    rw [bytesLess_eq, hd, hd]
    simp only [decide_eq_true_eq]
  show decide (orV (cmpS x.name y.name) (Lib.compareInt x.node y.node) < 0) = true ↔ _
  rw [hs, decide_eq_true_iff]
  by_cases h1 : x.name.data.toList < y.name.data.toList
  · rw [if_pos h1]
    refine ⟨fun _ => .inl h1, fun _ => ?_⟩
    rw [orV, if_neg (by decide)]
    decide
  · have hc : Lib.compareInt x.node y.node < 0 ↔ x.node < y.node := by
      unfold Lib.compareInt
      (repeat' split) <;> simp_all <;> omega
    by_cases h2 : x.name = y.name
    · rw [if_neg h1, if_pos h2, orV, if_pos rfl, hc]
      exact ⟨fun h => .inr ⟨h2, h⟩, fun h => h.elim (fun h => absurd h h1) (·.2)⟩
    · rw [if_neg h1, if_neg h2, orV, if_neg (by decide)]
      exact ⟨fun h => absurd h (by decide), fun h => h.elim (fun h => absurd h h1) fun h => absurd h.1 h2⟩
theorem bytes_tri (a b : ByteArray) : a.data.toList < b.data.toList ∨ a = b ∨ b.data.toList < a.data.toList := by
  by_cases h1 : a.data.toList < b.data.toList
  · exact .inl h1
  · by_cases h2 : b.data.toList < a.data.toList
    · exact .inr (.inr h2)
    · refine .inr (.inl ?_)
      have this : a.data.toList = b.data.toList := List.le_antisymm (List.not_lt.1 h2) (List.not_lt.1 h1)
      exact ByteArray.ext (Array.toList_inj.1 this)
theorem ltC_irrefl (x : Child) : ltC x x = false := by
  rw [Bool.eq_false_iff]
  intro h
  rcases (ltC_iff x x).1 h with h | ⟨_, h⟩
  · exact List.lt_irrefl _ h
  · omega
theorem ltC_trans (x y z : Child) (h1 : ltC x y = true) (h2 : ltC y z = true) : ltC x z = true := by
  rw [ltC_iff] at *
  rcases h1 with h1 | ⟨e1, h1⟩ <;> rcases h2 with h2 | ⟨e2, h2⟩
  · exact .inl (List.lt_trans h1 h2)
  · exact .inl (e2 ▸ h1)
  · exact .inl (e1 ▸ h2)
  · exact .inr ⟨e1.trans e2, by omega⟩
theorem ltC_anti (x y : Child) (h1 : ltC x y = false) (h2 : ltC y x = false) : x = y := by
  have g1 := (not_congr (ltC_iff x y)).1 (by simp [h1])
  have g2 := (not_congr (ltC_iff y x)).1 (by simp [h2])
  rcases bytes_tri x.name y.name with h | h | h
  · exact absurd (.inl h) g1
  · have : x.node = y.node := by
      rcases Int.lt_trichotomy x.node y.node with k | k | k
      · exact absurd (.inr ⟨h, k⟩) g1
      · exact k
      · exact absurd (.inr ⟨h.symm, k⟩) g2
    cases x; cases y
    simp_all
  · exact absurd (.inl h) g2
theorem swoC : SWO (ltOf cfC) where
  irrefl := ltC_irrefl
  trans := ltC_trans
  ntrans x y z h1 h2 := by
    show ltC x z = false
    have h1 : ltC x y = false := h1
    have h2 : ltC y z = false := h2
    rw [Bool.eq_false_iff]
    intro h
    cases h3 : ltC y x with
    | true => rw [ltC_trans y x z h3 h] at h2; cases h2
    | false =>
      have := ltC_anti x y h1 h3
      subst this
      rw [h] at h2; cases h2
def sortCh (cs : List Child) : List Child := cs.mergeSort fun x y => !(ltOf cfC) y x
theorem sortCh_perm (cs : List Child) : (sortCh cs).Perm cs := List.mergeSort_perm _ _
theorem sortCh_len (cs : List Child) : (sortCh cs).length = cs.length := (sortCh_perm cs).length_eq
theorem cmpLaysC (blk off size : Nat) (w : World) : CmpLays Tryz.prog 34 #[] encC 2 cfC blk off size w :=
  fun _ _ _ _ x y => closureC (x.name, x.node) (y.name, y.node) _

theorem flat_C (c : Child) : GV.flat (gChild c) = encC c := rfl
theorem els_C (cs : List Child) : Els 2 (cs.map gChild) := fun x hx => by
  obtain ⟨c, _, rfl⟩ := List.mem_map.1 hx
  exact ⟨gChild_ok c, gChild_sz c⟩
/-- The cells of these, one behind the other. -/
theorem flats_C (cs : List Child) {j : Nat} (hj : j < cs.length * 2) : (flats (cs.map gChild))[j]? = some (flatK encC 2 cs.toArray)[j]! := by
  have hi : j / 2 < cs.length := by omega
  have hx : (cs.map gChild)[j / 2]? = some (gChild cs[j / 2]) := by rw [List.getElem?_map, List.getElem?_eq_getElem hi]; rfl
  have hm : j % 2 < (encC cs[j / 2]).length := by show j % 2 < 2; omega
  have h := flats_at (els_C cs) hx (j % 2) _ (by rw [flat_C, List.getElem?_eq_getElem hm])
  rw [show j / 2 * 2 + j % 2 = j by omega] at h
  rw [h, get_flatK encC 2 cs.toArray j (by simpa using hj)]
  have e1 : cs.toArray[j / 2]! = cs[j / 2] := by
    rw [getElem!_pos cs.toArray (j / 2) (by simpa using hi)]
    simp
  rw [e1, getElem!_pos (encC cs[j / 2]) (j % 2) hm]
end Go.Proofs.YtdpknchgoeboaaaGreat.Vc

/- slices.SortFunc at children, of one's own memory. -/
set_option linter.unusedVariables false
set_option linter.unusedSimpArgs false
set_option maxRecDepth 100000
namespace Go.Proofs.YtdpknchgoeboaaaGreat.Vc
open Go Go.Proofs Go.Sort Go.Shelf Go.Lib

theorem sortC_spec (w : World) (v : Value) (cs : List Child) (m : PH) (hS : SlO m v 46 2 (cs.map gChild)) (hl : cs.length ≤ 1099511627776) :
    Spec Tryz.prog 33 [v, .func (.func 34) #[] #[]] m w fun rs m' => rs = [] ∧ SlO m' v 46 2 ((sortCh cs).map gChild) := by
  intro hm
  by_cases h0 : cs = []
  · subst h0
    have key : ∀ p cap, v = .slice p 0 cap → Calls Tryz.prog 33 #[v, .func (.func 34) #[] #[]] w fun e w' => e = .returned (.tuple #[]) ∧ w' = w := fun p cap e => by
      rw [e]; exact AnyF.slices_SortFunc_none Tryz.sortC p cap _ w
    have hv : ∃ p cap, v = .slice p 0 cap := by
      obtain ⟨_, ⟨h1, _⟩ | ⟨a, c, h1, _⟩⟩ := hS
      · exact ⟨none, 0, h1⟩
      · exact ⟨some a, c, h1⟩
    obtain ⟨p, cap, e⟩ := hv
    refine (key p cap e).mono fun e w' ⟨he, hw⟩ => ?_
    subst hw
    exact ⟨[], m, he, by simp, ⟨rfl, by simpa [sortCh] using hS⟩, hm, fun b hb => .inl hb, Kept.refl m w'⟩
  · obtain ⟨hels, ⟨_, h1⟩ | ⟨⟨b, o, sp⟩, c, rfl, hc, hs⟩⟩ := hS
    · exact absurd (by simpa using h1) h0
    have hlen : 0 < cs.length := List.length_pos_iff.2 h0
    rw [List.length_map] at hc
    obtain ⟨cl, hsp, hsz, hb, hrow⟩ := hs (by omega)
    simp only at hsp hsz hb hrow
    subst hsp
    rw [List.length_map]
    have hwb := hm b _ hb
    have hblk : b < w.heap.size := by
      rw [Array.getElem?_eq_some_iff] at hwb
      exact hwb.1
    have hH : HoldsK encC 2 w b o cs.toArray := fun j hj => by
      have hj' : j < cs.length * 2 := by simpa using hj
      have hcell := hrow j _ (flats_C cs hj')
      refine ⟨?_, ?_⟩
      · simp only [World.cell?, hwb]
        simpa using hcell
      · simp [World.frozen?, hwb]
    have hcon := AnyQ.slices_SortFunc Tryz.sortC 2 Tryz.isAgg46 Tryz.sizeOf46 encC (fun _ => rfl) (fun x v hv => by simp [encC] at hv; rcases hv with rfl | rfl <;> rfl) cfC swoC 34 #[] b o c cs.toArray w (enters_of Tryz.func34 (by kernel_rfl) rfl) (cmpLaysC b o _ w) hH hblk (by simp; omega)
    have hcon : Calls Tryz.prog 33 #[.slice (some ⟨b, o, none⟩) cs.length c, .func (.func 34) #[] #[]] w fun e w' => e = .returned (.tuple #[]) ∧ ∃ d' n os, PermIn 0 cs.toArray.size cs.toArray d' ∧ SortedIn (ltOf cfC) 0 cs.toArray.size d' ∧ w' = sortWorldK encC 2 w b o n d' os := hcon
    refine hcon.mono fun e w' ⟨he, d', n, os, hp, hso, hw⟩ => ?_
    have hd' : d'.toList = sortCh cs := by
      have := sorted_unique_holds swoC ltC_anti cs.toArray d' (by simpa using hp) (by simpa using hso)
      simpa [sortCh] using this
    have hsz' : d'.size = cs.length := by rw [← Array.length_toList, hd', sortCh_len]
    generalize hF : flatK encC 2 d' = F at *
    have hFs : F.size = cs.length * 2 := by rw [← hF, size_flatK, hsz']
    have hheap : w'.heap = (w.heap.modify b (onCells (putCells id o F))) ++ os := by rw [hw, ← hF]; rfl
    have hwb' : w'.heap[b]? = some (.cells (putCells id o F cl) 46 (0, 0)) := by
      rw [hheap, Array.getElem?_append_left (by simpa using hblk), Array.getElem?_modify, if_pos rfl, hwb]
      rfl
    refine ⟨[], one b (.cells (putCells id o F cl) 46 (0, 0)), he, by simp, ⟨rfl, els_C _, .inr ⟨⟨b, o, none⟩, c, by rw [List.length_map, sortCh_len], by rw [List.length_map, sortCh_len]; exact hc, fun _ => ⟨putCells id o F cl, rfl, by simp only [putCells, Array.size_mapIdx]; exact hsz, by simp [one], fun j v hj => ?_⟩⟩⟩, fun k x hk => ?_, fun k hk => ?_, ?_⟩
    · have hjl : j < (sortCh cs).length * 2 := by
        have := List.getElem?_eq_some_iff.1 hj
        have h2 := this.1
        rw [flats_len (els_C _), List.length_map] at h2
        exact h2
      rw [flats_C _ hjl] at hj
      rw [sortCh_len] at hjl
      have hj : F[j]! = v := by
        rw [← hF, show d' = (sortCh cs).toArray by rw [← hd', Array.toArray_toList]]
        exact Option.some.inj hj
      have hcell : ∃ x, cl[o + j]? = some x := by
        have := hrow j _ (flats_C cs hjl)
        exact ⟨_, this⟩
      obtain ⟨x, hx⟩ := hcell
      simp only [putCells]
      rw [Array.getElem?_mapIdx, hx, Option.map_some, if_pos ⟨by omega, by omega⟩, show o + j - o = j by omega, hj]
      rfl
    · simp only [one] at hk
      split at hk
      · rename_i e; subst e; cases hk; exact hwb'
      · cases hk
    · simp only [one] at hk
      split at hk
      · rename_i e; subst e; exact .inl (by rw [hb]; simp)
      · exact absurd rfl hk
    · refine ⟨by rw [hw]; rfl, by rw [hw]; rfl, by rw [hw]; rfl, by rw [hheap]; simp, fun k hk hmk => ?_⟩
      have hkb : b ≠ k := fun e => by subst e; rw [hb] at hmk; cases hmk
      rw [hheap, Array.getElem?_append_left (by simpa using hk), Array.getElem?_modify, if_neg hkb]
end Go.Proofs.YtdpknchgoeboaaaGreat.Vc

/- The children of a node are there: plain. -/
set_option linter.unusedVariables false
set_option linter.unusedSimpArgs false
namespace Go.Proofs.YtdpknchgoeboaaaGreat.Vc
open Go

theorem kids_get {T : PT} (hkd : T.kidsOk) (hg : VGood T.view) {n : Int} {x : PN} (hx : T.get n = some x) : ∀ c ∈ x.kids, c ≠ 0 ∧ ∃ y, T.get c = some y := fun c hc => by
  obtain ⟨_, y, hy, _⟩ := (hkd.mem _ x c hx).1 hc
  have := hg.pos c _ (PT.view_get hy)
  exact ⟨by omega, y, hy⟩
/-- A node's parent is there. -/
theorem parent_get {T : PT} (hg : VGood T.view) {m : Int} {x : PN} (hx : T.get m = some x) (ht : topB m = false) : ∃ y, T.get x.parent = some y := by
  obtain ⟨k, hk⟩ := hg.led m (by rw [PT.view_get hx]; simp)
  cases k with
  | zero => rw [show topB m = true from hk] at ht; cases ht
  | succ k =>
    obtain ⟨_, a, h1, h2⟩ := hk
    rw [PT.view_get hx] at h1
    cases h1
    cases k with
    | zero =>
      rcases topB_iff.1 (show topB x.parent = true from h2) with e | e
      · obtain ⟨a, ha⟩ := Option.ne_none_iff_exists'.1 hg.one
        obtain ⟨y, hy, _⟩ := get_of_view ha
        rw [e]; exact ⟨y, hy⟩
      · obtain ⟨a, ha⟩ := Option.ne_none_iff_exists'.1 hg.two
        obtain ⟨y, hy, _⟩ := get_of_view ha
        rw [e]; exact ⟨y, hy⟩
    | succ k =>
      obtain ⟨_, b, h3, _⟩ := h2
      obtain ⟨y, hy, _⟩ := get_of_view h3
      exact ⟨y, hy⟩
/-- The told rows are the nodes. -/
theorem told_mem {T : PT} {r : TN} (h : r ∈ nodesTold T) : ∃ x, T.get r.node = some x ∧ r.parent = x.parent ∧ r.name = x.name := by
  obtain ⟨n, _, x, hx, e⟩ := toldL_node h
  subst e
  exact ⟨x, hx, rfl, rfl⟩
end Go.Proofs.YtdpknchgoeboaaaGreat.Vc

/- The code of some functions of the program, its types resolved: printed by a program of this claim. -/
set_option linter.unusedVariables false
set_option maxRecDepth 100000
namespace Go.Proofs.YtdpknchgoeboaaaGreat.Vc
open Go Go.Proofs

abbrev f_tree_Tree_Children : Nat := 10
def c_tree_Tree_Children_L0 : Cd :=
 (.seq (.rg [⟨none, [(some 28, .nxt (.t 27)), (some 29, .ext (.t 28) 0)]⟩] [0, 5, 27, 29])
 (.seq (.ite (.t 29)
 .skip
 (.exit 0))
 (.block 1 (.seq (.rg [⟨none, [(some 30, .ent (.t 27)), (some 31, .ext (.t 30) 0), (some 6, .mv (.t 31))]⟩] [0, 5, 6, 27])
 (.rg [⟨none, [(some 32, .mv (.t 5)), (some 33, .mv (.t 0)), (some 34, .nilc (.t 33)), (some 35, .fldA (.t 34) 0 0), (some 36, .ld (.t 35) 1 false), (some 37, .mv (.t 6)), (some 38, .mlk (some .i64) (.t 36) (.t 37) (.pointer none) false), (some 39, .nilc (.t 38)), (some 40, .fldA (.t 39) 0 0), (some 41, .fldA (.t 40) 1 1), (some 42, .ld (.t 41) 1 false), (some 43, .mv (.t 6)), (some 44, .bld (.c (.s (.string ⟨#[]⟩)) (.c (.s (.int .i64 0)) .u)) [(0, (.t 42)), (1, (.t 43))]), (some 45, .bldS 46 2 (.c (.s (.string ⟨#[]⟩)) (.c (.s (.int .i64 0)) .u)) [(.t 44)]), (some 46, .app 46 2 24 (.c (.s (.string ⟨#[]⟩)) (.c (.s (.int .i64 0)) .u)) (.t 32) (.t 45)), (some 5, .mv (.t 46))]⟩] [0, 5, 27])))))
def c_tree_Tree_Children : Cd :=
 (.seq (.rg [⟨none, [(some 4, .mv (.c (.slice none 0 0)))]⟩] [0, 1])
 (.seq (.seq (.rg [⟨none, [(some 7, .mv (.t 0)), (some 8, .call 28 [(.t 7)]), (some 9, .mv (.t 8))]⟩, ⟨some (9, false), [(some 10, .mv (.t 0)), (some 11, .nilc (.t 10)), (some 12, .fldA (.t 11) 0 0), (some 13, .ld (.t 12) 1 false), (some 14, .mv (.t 1)), (some 15, .mlk (some .i64) (.t 13) (.t 14) (.pointer none) false), (some 16, .eqA false 90 (.t 15) (.c (.pointer none)))]⟩, ⟨none, [(some 17, .pick (.t 9) (.c (.bool true)) (.t 16))]⟩] [0, 1, 17])
 (.ite (.t 17)
 (.seq (.rg [⟨none, [(some 4, .mv (.c (.slice none 0 0)))]⟩] [4])
 .ret)
 .skip))
 (.seq (.rg [⟨none, [(some 5, .mv (.c (.slice none 0 0)))]⟩] [0, 1, 5])
 (.seq (.seq (.rg [⟨none, [(some 18, .mv (.t 0)), (some 19, .nilc (.t 18)), (some 20, .fldA (.t 19) 0 0), (some 21, .ld (.t 20) 1 false), (some 22, .mv (.t 1)), (some 23, .mlk (some .i64) (.t 21) (.t 22) (.pointer none) false), (some 24, .nilc (.t 23)), (some 25, .fldA (.t 24) 2 3), (some 26, .ld (.t 25) 1 false), (some 27, .rng (some .i64) (.t 26))]⟩] [0, 5, 27])
 (.block 0 (.loop c_tree_Tree_Children_L0)))
 (.seq (.rg [⟨none, [(some 47, .mv (.t 5)), (some 48, .call 33 [(.t 47), (.c (.func (.func 34) #[] #[]))])]⟩] [5])
 (.seq (.rg [⟨none, [(some 49, .mv (.t 5)), (some 4, .mv (.t 49))]⟩] [4])
 .ret))))))
theorem k_tree_Tree_Children : Ok Tryz.prog 10 c_tree_Tree_Children 50 [] [.tmp 4] := Ok.mk' Tryz.func10 (by kernel_rfl) (by kernel_rfl) (by kernel_rfl)

end Go.Proofs.YtdpknchgoeboaaaGreat.Vc

/- Children: the nodes beneath a node, by name and number. -/
set_option linter.unusedVariables false
set_option linter.unusedSimpArgs false
set_option maxRecDepth 100000
namespace Go.Proofs.YtdpknchgoeboaaaGreat.Vc
open Go Go.Proofs

def childOf (T : PT) (c : Int) : Child := ⟨((T.get c).map fun y => y.name).getD ⟨#[]⟩, c⟩
theorem childOf_get {T : PT} {c : Int} {y : PN} (h : T.get c = some y) : childOf T c = ⟨y.name, c⟩ := by rw [childOf, h]; rfl
theorem not_ltC {x y : Child} (h : (!(ltOf cfC) y x) = true) : ltC y x = false := by
  unfold ltC
  simpa using h
theorem sortCh_sorted (a : List Child) : (sortCh a).Pairwise fun x y => (!(ltOf cfC) y x) = true := by
  refine List.pairwise_mergeSort (le := fun x y => !(ltOf cfC) y x) (fun x y z h1 h2 => ?_) (fun x y => ?_) a
  · have := swoC.ntrans z y x (not_ltC h2) (not_ltC h1)
    simpa using this
  · cases h1 : (ltOf cfC) y x with
    | false => simp
    | true =>
      cases h2 : (ltOf cfC) x y with
      | false => simp
      | true =>
        have := swoC.trans x y x h2 h1
        rw [swoC.irrefl] at this; cases this
theorem sortCh_uniq {a b : List Child} (h : a.Perm b) : sortCh a = sortCh b := by
  refine List.Perm.eq_of_pairwise (le := fun x y => (!(ltOf cfC) y x) = true) ?_ (sortCh_sorted a) (sortCh_sorted b) ((sortCh_perm a).trans (h.trans (sortCh_perm b).symm))
  intro x y _ _ h1 h2
  exact ltC_anti x y (not_ltC h2) (not_ltC h1)
/-- What Children tells. -/
def childA (T : PT) (n : Int) : List Child := sortCh (((T.get n).map PN.kids).getD [] |>.map (childOf T))
theorem childA_none {T : PT} {n : Int} (h : T.get n = none) : childA T n = [] := by rw [childA, h]; simp [sortCh]
theorem childA_get {T : PT} {n : Int} {x : PN} (h : T.get n = some x) : childA T n = sortCh (x.kids.map (childOf T)) := by rw [childA, h]; rfl

theorem Children_spec {w : World} {u : PH} {L : Lay} {T : PT} (hu : u.le w) (hT : TM u L T) (n : Int) (hkd : T.kidsOk) (hg : VGood T.view) (hl : T.nodes.length ≤ 1099511627776) :
    Spec Tryz.prog f_tree_Tree_Children [ptr (L .t), .int .i64 n] PH.no w fun rs m' => ∃ v, rs = [.s v] ∧ SlO m' v 46 2 ((childA T n).map gChild) := by
  refine spec_of k_tree_Tree_Children [.g (.s (ptr (L .t))), .g (.s (.int .i64 n))] (by simp) (by simp [AV.ok, GV.ok, Value.oneCell', ptr]) ?_
  have hk : ∀ {l : List PH}, KN (⟨Tryz.prog, 50, w, PH.no⟩ : Ctx).u0 l u := kn_u hu
  simp (maxSteps := 2000000) only [c_tree_Tree_Children, vc_seq, vc_rg, thenQ_n, kKeep_eq, segs_nil, segs_n, ops_nil, ops_cons, vcOp, ev, look, put_mk, keep_mk, keepL, Value.oneCell', cond_true, Nat.reduceEqDiff, ↓reduceIte, reduceCtorEq, Nat.zero_add, initF, initP, ptr]
  refine call_is _ [.s (.bool false)] rfl rfl (fun w' vs hv hw => ?_) ?_
  · obtain ⟨vs, rfl, _, hv⟩ := argsV_g hv
    obtain rfl := argsV_nil hv
    intro _
    exact none_spec (fun b o h => hw b o (by rw [u0_no]; exact hu b o h)) hT
  simp (maxSteps := 2000000) only [retS, segs_g, ops_nil, ops_cons, vcOp, ev, look, put_mk, ↓reduceIte, reduceCtorEq, Nat.add_zero, ↓br_ff]
  refine ld_of _ (hT.s_map hk) rfl ?_
  simp (maxSteps := 2000000) only [ops_cons, vcOp, ev, look, put_mk, Nat.reduceEqDiff, ↓reduceIte, reduceCtorEq]
  refine hT.lk hk n ?_
  cases hx : T.get n with
  | none =>
    simp (maxSteps := 2000000) only [ops_cons, vcOp, ev, look, put_mk, Value.oneCell', cond_true, ↓reduceIte, nptr_none]
    refine eq_of eqNode0 ?_
    simp (maxSteps := 2000000) only [vc_ret, vc_seq, vc_rg, vc_ite, thenQ_n, thenQ_r, kKeep_eq, finQ_r, segs_nil, segs_n, ops_nil, ops_cons, vcOp, ev, look, put_mk, keep_mk, keepL, Value.oneCell', cond_true, Nat.reduceEqDiff, ↓reduceIte, reduceCtorEq, ↓br_tt, ↓br_ft, Bool.bne_false]
    exact fin_m (rs := [.s (.slice none 0 0)]) PH.no rfl (fun _ _ h => h) ⟨_, rfl, by rw [childA_none hx]; exact ⟨fun x hx => by simp at hx, .inl ⟨rfl, rfl⟩⟩⟩
  | some x =>
    simp (maxSteps := 2000000) only [ops_cons, vcOp, ev, look, put_mk, Value.oneCell', cond_true, ↓reduceIte, nptr_some]
    refine eq_of (eqNode _) ?_
    simp (maxSteps := 2000000) only [vc_skip, vc_seq, vc_rg, vc_ite, thenQ_n, kKeep_eq, segs_nil, segs_n, ops_nil, ops_cons, vcOp, ev, look, put_mk, keep_mk, keepL, Value.oneCell', cond_true, Nat.reduceEqDiff, ↓reduceIte, reduceCtorEq, Nat.add_zero, ↓br_ft, Bool.bne_false]
    refine ld_of _ (hT.s_map hk) rfl ?_
    simp (maxSteps := 2000000) only [ops_cons, vcOp, ev, look, put_mk, Nat.reduceEqDiff, ↓reduceIte, reduceCtorEq]
    refine hT.lk hk n ?_
    rw [hx]
    simp (maxSteps := 2000000) only [ops_cons, vcOp, ev, look, put_mk, ↓reduceIte, Nat.zero_add, nptr_some]
    refine ld_of _ (hT.s_node hk hx).2.2.2.1 rfl ?_
    simp (maxSteps := 2000000) only [ops_cons, vcOp, ev, look, put_mk, ↓reduceIte]
    obtain ⟨ok, idsV, h1, h2⟩ := hT.at (.kb n) ⟨x, hx⟩
    have hmap : MapI (some .i64) ok (rawK x.kids) := h2 x hx
    have hsee : ∀ {m : PH}, SeenO ⟨Tryz.prog, 50, w, PH.no⟩ [] m (L (.kb n)) ok := fun {m} => kn_seen hk h1
    have hkf := kids_few hkd hx
    refine ⟨ok, _, hsee, hmap, fun r it hit hdr => ?_⟩
    simp (maxSteps := 2000000) only [uni_no_r, vc_block, thenQ_n, kKeep_eq, segs_nil, ops_nil, look, put_mk, keep_mk, keepL, Nat.reduceEqDiff, ↓reduceIte, reduceCtorEq]
    refine vc_loop (ι := List Int × Value × PH × Obj) (fun q => ⟨[(0, .g (.s (.pointer (some ⟨L .t, 0, none⟩)))), (5, .g (.s q.2.1)), (27, .g (.s (.pointer (some ⟨r, 0, none⟩))))], [], [], uni (one r q.2.2.2) q.2.2.1⟩)
      (fun q => IterM q.2.2.2 ok (L (.kb n)) (rawK q.1) ∧ SlO q.2.2.1 q.2.1 46 2 ((q.1.map (childOf T)).map gChild) ∧ dis (one r q.2.2.2) q.2.2.1 ∧ ∀ c ∈ q.1, c ∈ x.kids) (fun q => x.kids.length - q.1.length) ([], .slice none 0 0, PH.no, it) ⟨hit, ⟨fun x hx => by simp at hx, .inl ⟨rfl, by simp⟩⟩, dis_no_r _, by simp⟩ (ge_of ?_ ?_ rfl rfl ?_) ?_
    · simp [frIn, look]
    · simp [pvIn, look]
    · simp [uni_no_r]
    clear hit hdr
    rintro ⟨ks, v, mv, it⟩ ⟨hI, hS, hd, hsub⟩
    simp only at hI hS hd hsub
    have hlk := iter_nodup hI hmap (hkd.nod n x hx)
    generalize hQ : loopQ _ _ _ _ _ = Q
    simp (maxSteps := 2000000) only [c_tree_Tree_Children_L0, vc_seq, vc_rg, segs_n, ops_cons, vcOp, ev, look, Nat.reduceEqDiff, ↓reduceIte, reduceCtorEq, gChild_zero]
    refine ⟨it, _, ok, _, _, _, uni_one_self _ _ _, hsee, hmap, hI, fun hp => ?_, fun p it' hp hps hit' => ?_⟩
    · simp (maxSteps := 2000000) only [List.getElem?_cons_zero, vc_exit, vc_seq, vc_ite, thenQ_n, thenQ_e, kKeep_eq, segs_nil, ops_nil, ops_cons, vcOp, ev, look, put_mk, keep_mk, keepL, Nat.reduceEqDiff, ↓reduceIte, reduceCtorEq, ↓br_ft]
      subst hQ
      simp (maxSteps := 2000000) only [vc_seq, vc_rg, thenQ_n, blockQ_e, loopQ_e, segs_n, ops_cons, vcOp, ev, look, put_mk, ↓reduceIte, reduceCtorEq]
      have hk2 := rawK_perm hp
      refine call_with mv (one r it) (dOk_spec rfl) rfl (uni_comm hd) (dis_comm hd) (Q := fun rs m' => rs = [] ∧ SlO m' v 46 2 ((sortCh (ks.map (childOf T))).map gChild)) (fun w' vs hvv _ _ => ?_) fun rs m4 _ hq hd4 => ?_
      · obtain ⟨vs, rfl, _, hvv⟩ := argsV_g hvv
        obtain ⟨vs, rfl, _, hvv⟩ := argsV_g hvv
        obtain rfl := argsV_nil hvv
        exact sortC_spec w' v _ mv hS (by rw [List.length_map]; omega)
      obtain ⟨rfl, hS4⟩ := hq
      simp (maxSteps := 2000000) only [retS, vc_ret, vc_seq, vc_rg, thenQ_n, kKeep_eq, finQ_r, segs_nil, segs_n, ops_nil, ops_cons, vcOp, ev, look, put_mk, keep_mk, keepL, Nat.reduceEqDiff, ↓reduceIte, reduceCtorEq]
      exact fin_m (rs := [.s v]) m4 rfl (sub_uni_l _ _) ⟨v, rfl, by rw [childA_get hx, ← sortCh_uniq (hk2.map _)]; exact hS4⟩
    · obtain ⟨c, hc, rfl⟩ := mem_rawK hp
      obtain ⟨hc0, y, hy⟩ := kids_get hkd hg hx c hc
      have hit2 : IterM it' ok (L (.kb n)) (rawK (ks ++ [c])) := by
        have e : rawK (ks ++ [c]) = rawK ks ++ [(.int .i64 c, .int .i64 1)] := by simp [rawK]
        rw [e]; exact hit'
      have hlen2 := iter_nodup hit2 hmap (hkd.nod n x hx)
      simp only [List.length_append, List.length_cons, List.length_nil] at hlen2
      simp (maxSteps := 2000000) only [List.getElem?_cons_zero, vc_skip, vc_seq, vc_block, vc_rg, vc_ite, thenQ_n, kKeep_eq, segs_nil, segs_n, ops_nil, ops_cons, vcOp, ev, look, put_mk, keep_mk, keepL, Nat.reduceEqDiff, ↓reduceIte, reduceCtorEq, ↓br_tt]
      refine ⟨it', _, ok, _, _, _, _, .inl (upd_self _ _ _), hsee, hmap, hit', ?_⟩
      simp (maxSteps := 2000000) only [List.getElem?_cons_zero, vc_rg, thenQ_n, kKeep_eq, segs_nil, segs_n, ops_nil, ops_cons, vcOp, ev, look, put_mk, keep_mk, keepL, Nat.reduceEqDiff, ↓reduceIte, reduceCtorEq, Nat.add_zero]
      rw [uni_one_upd]
      refine ld_of _ (hT.s_map hk) rfl ?_
      simp (maxSteps := 2000000) only [ops_cons, vcOp, ev, look, put_mk, Nat.reduceEqDiff, ↓reduceIte, reduceCtorEq]
      refine hT.lk hk c ?_
      rw [hy]
      simp (maxSteps := 2000000) only [ops_cons, vcOp, ev, look, put_mk, ↓reduceIte, Nat.zero_add, Nat.add_zero, nptr_some]
      refine ld_of _ (hT.s_node hk hy).2.1 rfl ?_
      simp (maxSteps := 2000000) only [ops_cons, vcOp, ev, evL, gvL, look, updL, put_mk, rowE, GV.getT, GV.same, Nat.reduceEqDiff, ↓reduceIte, reduceCtorEq, Nat.zero_add, Bool.and_true, Bool.true_and, true_and, and_true, List.map_cons, List.map_nil, Option.map_some, szAll, List.length_cons, List.length_nil, List.drop_zero, List.take_succ_cons, List.take_zero, GV.bldT, GV.bldC, same_int, gChild_sz, gChild_get0, gChild_set0, gChild_get1, gChild_set1]
      have hd' := dis_one_of (b := it') hd
      refine ⟨⟨rfl, rfl⟩, app_of rfl rfl mv (one r it') ((ks.map (childOf T)).map gChild) hS (uni_comm hd') (dis_comm hd') (by simp only [List.length_map, List.length_cons, List.length_nil]; omega) fun v' u' hv' hs' hd2 => ?_⟩
      simp (maxSteps := 2000000) only [blockQ_n, kKeep_eq, segs_nil, ops_nil, ops_cons, vcOp, ev, look, put_mk, keep_mk, keepL, Nat.reduceEqDiff, ↓reduceIte, reduceCtorEq]
      subst hQ; simp only [loopQ_n]
      refine ⟨(ks ++ [c], v', u', it'), ⟨hit2, ?_, dis_comm hd2, fun d hd => ?_⟩, ?_, ge_of ?_ ?_ rfl rfl (uni_comm (dis_comm hd2))⟩
      · simp only [List.map_append, List.map_cons, List.map_nil, childOf_get hy]
        exact hs'
      · rcases List.mem_append.1 hd with h | h
        · exact hsub d h
        · simp only [List.mem_singleton] at h; subst h; exact hc
      · simp only [List.length_append, List.length_cons, List.length_nil]; omega
      · simp [frIn, look]
      · simp [pvIn, look]
end Go.Proofs.YtdpknchgoeboaaaGreat.Vc

/- What is answered is one's own: nodes with their attributes, each apart; a tree by operations, exactly. -/
set_option linter.unusedVariables false
set_option linter.unusedSimpArgs false
set_option maxRecDepth 100000
namespace Go.Proofs.YtdpknchgoeboaaaGreat.Vc
open Go Go.Proofs

/-! ### Steps -/
def stepT (T : PT) (op : Op) : PT := if mayA T op = true then T.does op else T
def stepsT (ops : List Op) : PT := ops.foldl stepT T0
theorem stepsT_snoc (ops : List Op) (op : Op) : stepsT (ops ++ [op]) = stepT (stepsT ops) op := by simp [stepsT]
theorem stepsT_all (ops : List Op) (ho : ∀ op ∈ ops, OpOk op) : (stepsT ops).ok ops.length ∧ VGood (stepsT ops).view ∧ (stepsT ops).kidsOk := by
  have key : ∀ (ops : List Op) (T : PT) (k : Nat), (∀ op ∈ ops, OpOk op) → T.ok k → VGood T.view → T.kidsOk → (ops.foldl stepT T).ok (k + ops.length) ∧ VGood (ops.foldl stepT T).view ∧ (ops.foldl stepT T).kidsOk := by
    intro ops
    induction ops with
    | nil => intro T k _ h1 h2 h3; exact ⟨h1, h2, h3⟩
    | cons op ops ih =>
      intro T k ho h1 h2 h3
      obtain ⟨hw1, _⟩ := ho op (by simp)
      have hr := fun op h => ho op (List.mem_cons_of_mem _ h)
      rw [List.foldl_cons, List.length_cons, show k + (ops.length + 1) = (k + 1) + ops.length by omega]
      unfold stepT
      split
      · rename_i hm
        exact ih _ (k + 1) hr (does_ok h1 hm hw1) (does_good h2 h1 hm) (does_kids h2 hm h3)
      · exact ih _ (k + 1) hr (h1.up (by omega)) h2 h3
  have := key ops T0 0 ho T0_ok T0_good T0_kids
  rwa [Nat.zero_add] at this

/-! ### Rows whose attributes are one's own -/
def TsOwn : PH → List TreeNode → List TN → Prop
  | _, [], [] => True
  | m, t :: ts, a :: r => ∃ u mr, m = uni u mr ∧ dis u mr ∧ (t.node = a.node ∧ t.parent = a.parent ∧ t.name = a.name ∧ SlO u t.attrs 41 2 (a.attrs.map gAttr)) ∧ TsOwn mr ts r
  | _, _, _ => False
theorem TsOwn.ok : ∀ {m : PH} {ts : List TreeNode} {l : List TN}, TsOwn m ts l → TsOk m ts l
  | _, [], [], _ => trivial
  | _, _ :: _, _ :: _, ⟨u, mr, e, hd, ⟨h1, h2, h3, h4⟩, h5⟩ => by
    subst e
    exact ⟨⟨h1, h2, h3, h4.toR.up (sub_uni_l _ _)⟩, h5.ok.up (sub_uni_r hd)⟩
  | _, [], _ :: _, h => h.elim
  | _, _ :: _, [], h => h.elim
theorem TsOwn.junk {g : PH} : ∀ {m : PH} {ts : List TreeNode} {l : List TN}, TsOwn m ts l → dis g m → TsOwn (uni g m) ts l
  | _, [], [], _, _ => trivial
  | _, _ :: _, _ :: _, ⟨u, mr, e, hd, h1, h5⟩, hg => by
    subst e
    obtain ⟨g1, g2⟩ := dis_of_uni_r hg
    exact ⟨u, uni g mr, by rw [uni_lc g1], dis_uni_r (dis_comm g1) hd, h1, h5.junk g2⟩
  | _, [], _ :: _, h, _ => h.elim
  | _, _ :: _, [], h, _ => h.elim
theorem TsOwn.snoc {u : PH} {t : TreeNode} {a : TN} (ht : t.node = a.node ∧ t.parent = a.parent ∧ t.name = a.name ∧ SlO u t.attrs 41 2 (a.attrs.map gAttr)) : ∀ {m : PH} {ts : List TreeNode} {l : List TN}, dis u m → TsOwn m ts l → TsOwn (uni u m) (ts ++ [t]) (l ++ [a])
  | m, [], [], hd, _ => ⟨u, m, rfl, hd, ht, trivial⟩
  | _, _ :: _, _ :: _, hg, ⟨v, mr, e, hd, h1, h5⟩ => by
    subst e
    obtain ⟨g1, g2⟩ := dis_of_uni_r hg
    exact ⟨v, uni u mr, by rw [uni_lc g1], dis_uni_r (dis_comm g1) hd, h1, TsOwn.snoc ht g2 h5⟩
  | _, [], _ :: _, _, h => h.elim
  | _, _ :: _, [], _, h => h.elim

/-! ### One cell of an element is written -/
theorem SlO.stored2 {u : PH} {b o n c : Nat} {e : TypeId} {xs : List GV} (h : SlO u (.slice (some ⟨b, o, none⟩) n c) e 2 xs) {i : Nat} (hi : i < xs.length) {k : Nat} (hk : k < 2) {y : GV} {f : Value} (hy : y.ok) (hz : y.sz = 2) (hf : y.flat = xs[i].flat.set k f) :
    ∃ cs, u b = some (.cells cs e (0, 0)) ∧ o + i * 2 + k + 1 ≤ cs.size ∧ SlO (u.upd b (.cells (writeAt cs (o + i * 2 + k) [f]) e (0, 0))) (.slice (some ⟨b, o, none⟩) n c) e 2 (xs.set i y) := by
  obtain ⟨cs, h1, h2, h3⟩ := h.stored hi hy hz
  refine ⟨cs, h1, by omega, ?_⟩
  have hfl : xs[i].flat.length = 2 := by
    have := h.1 xs[i] (List.getElem_mem hi)
    rw [GV.flat_len _ this.1, this.2]
  obtain ⟨hels, ⟨q1, rfl⟩ | ⟨a, c', q1, q2, q3⟩⟩ := h
  · simp at hi
  simp only [Value.slice.injEq, Option.some.injEq] at q1
  obtain ⟨rfl, rfl, rfl⟩ := q1
  obtain ⟨cs', g1, g2, g3, g4⟩ := q3 (by omega)
  simp only at g2 g3 g4
  rw [h1] at g3
  simp only [Option.some.injEq, Obj.cells.injEq, and_true] at g3
  subst g3
  have hat : ∀ j v, xs[i].flat[j]? = some v → cs[o + i * 2 + j]? = some v := fun j v hj => by
    have := g4 _ _ (flats_at hels (List.getElem?_eq_getElem hi) j v hj)
    rwa [← Nat.add_assoc] at this
  have hsame : writeAt cs (o + i * 2 + k) [f] = writeAt cs (o + i * 2) y.flat := by
    apply Array.ext_getElem?
    intro j
    rw [writeAt_get _ _ _ _ (by simp; omega), writeAt_get _ _ _ _ (by rw [hf, List.length_set, hfl]; omega), hf, List.length_set, hfl]
    simp only [List.length_cons, List.length_nil]
    by_cases ha : o + i * 2 ≤ j ∧ j < o + i * 2 + 2
    · rw [if_pos ha]
      obtain ⟨d, hd, rfl⟩ : ∃ d, d < 2 ∧ j = o + i * 2 + d := ⟨j - (o + i * 2), by omega, by omega⟩
      rw [show o + i * 2 + d - (o + i * 2) = d by omega]
      by_cases hdk : d = k
      · subst hdk
        rw [if_pos (by omega), List.getElem?_set_self (by omega), show o + i * 2 + d - (o + i * 2 + d) = 0 by omega]
        rfl
      · rw [if_neg (by omega), List.getElem?_set_ne (fun e => hdk e.symm)]
        have hdl : d < xs[i].flat.length := by omega
        rw [List.getElem?_eq_getElem hdl]
        exact hat d _ (List.getElem?_eq_getElem hdl)
    · rw [if_neg ha, if_neg (by omega)]
  rw [hsame]
  exact h3
/-- Attributes of one's own, whatever they hold. -/
def AnyA (u : PH) (v : Value) (n : Nat) : Prop := ∃ xs : List Attr, xs.length = n ∧ SlO u v 41 2 (xs.map gAttr)
def AnyC (u : PH) (v : Value) (n : Nat) : Prop := ∃ xs : List Child, xs.length = n ∧ SlO u v 46 2 (xs.map gChild)
theorem AnyA.len {u : PH} {v : Value} {n : Nat} (h : AnyA u v n) : ∃ a c, v = .slice a n c ∧ n ≤ c := by
  obtain ⟨xs, hx, hS⟩ := h
  rcases hS.2 with ⟨rfl, h3⟩ | ⟨ad, c, rfl, hc, _⟩
  · have : xs = [] := by simpa using h3
    subst this
    exact ⟨none, 0, by rw [← hx]; rfl, by rw [← hx]; simp⟩
  · rw [List.length_map] at hc
    exact ⟨some ad, c, by rw [List.length_map, hx], by omega⟩
theorem AnyC.len {u : PH} {v : Value} {n : Nat} (h : AnyC u v n) : ∃ a c, v = .slice a n c ∧ n ≤ c := by
  obtain ⟨xs, hx, hS⟩ := h
  rcases hS.2 with ⟨rfl, h3⟩ | ⟨ad, c, rfl, hc, _⟩
  · have : xs = [] := by simpa using h3
    subst this
    exact ⟨none, 0, by rw [← hx]; rfl, by rw [← hx]; simp⟩
  · rw [List.length_map] at hc
    exact ⟨some ad, c, by rw [List.length_map, hx], by omega⟩
theorem AnyA.place {u : PH} {a : Option Addr} {n c i : Nat} (h : AnyA u (.slice a n c) n) (hi : i < n) : ∃ b o, a = some ⟨b, o, none⟩ ∧ n ≤ c := by
  obtain ⟨xs, hx, hS⟩ := h
  rcases hS.toR.shape with ⟨h1, _⟩ | ⟨_, b, o, c', h2, h3, _⟩
  · have : xs = [] := by simpa using h1
    subst this
    simp at hx; omega
  · simp only [Value.slice.injEq, List.length_map] at h2 h3
    exact ⟨b, o, h2.1, by omega⟩
theorem AnyC.place {u : PH} {a : Option Addr} {n c i : Nat} (h : AnyC u (.slice a n c) n) (hi : i < n) : ∃ b o, a = some ⟨b, o, none⟩ ∧ n ≤ c := by
  obtain ⟨xs, hx, hS⟩ := h
  rcases hS.toR.shape with ⟨h1, _⟩ | ⟨_, b, o, c', h2, h3, _⟩
  · have : xs = [] := by simpa using h1
    subst this
    simp at hx; omega
  · simp only [Value.slice.injEq, List.length_map] at h2 h3
    exact ⟨b, o, h2.1, by omega⟩
theorem st_attr {σ : SS} {u mr : PH} {b o n c i : Nat} {d : Option Nat} {K : KT} (hm : σ.m = uni u mr) (hd : dis u mr) (h : AnyA u (.slice (some ⟨b, o, none⟩) n c) n) (hi : i < n) {k : Nat} (hk : k < 2) (s : ByteArray)
    (hK : ∀ u', dis u' mr → AnyA u' (.slice (some ⟨b, o, none⟩) n c) n → K ({ σ with m := uni u' mr }.put d .no)) : stK σ b (o + i * 2 + k) 1 (.s (.string s)) d K := by
  obtain ⟨xs, hx, hS⟩ := h
  have hi' : i < xs.length := by omega
  obtain ⟨y, hy⟩ : ∃ y : Attr, (gAttr y).flat = (gAttr xs[i]).flat.set k (.string s) := by
    rcases (show k = 0 ∨ k = 1 by omega) with rfl | rfl
    · exact ⟨⟨s, xs[i].value⟩, rfl⟩
    · exact ⟨⟨xs[i].key, s⟩, rfl⟩
  obtain ⟨cs, g1, g2, g3⟩ := hS.stored2 (i := i) (by simpa using hi') hk (gAttr_ok y) (gAttr_sz y) (f := .string s) (by rw [List.getElem_map]; exact hy)
  refine st_of rfl cs 41 ⟨by rw [hm]; simp only [uni, g1, Option.some_or], g2⟩ ?_
  rw [hm, show ((GV.s (.string s)).flat = [.string s]) from rfl, uni_upd_l]
  exact hK _ (dis_upd_l hd (by rw [g1]; simp)) ⟨xs.set i y, by rw [List.length_set, hx], by rw [List.map_set]; exact g3⟩
theorem st_child {σ : SS} {u mr : PH} {b o n c i : Nat} {d : Option Nat} {K : KT} (hm : σ.m = uni u mr) (hd : dis u mr) (h : AnyC u (.slice (some ⟨b, o, none⟩) n c) n) (hi : i < n) (s : Int)
    (hK : ∀ u', dis u' mr → AnyC u' (.slice (some ⟨b, o, none⟩) n c) n → K ({ σ with m := uni u' mr }.put d .no)) : stK σ b (o + i * 2 + 1) 1 (.s (.int .i64 s)) d K := by
  obtain ⟨xs, hx, hS⟩ := h
  have hi' : i < xs.length := by omega
  obtain ⟨cs, g1, g2, g3⟩ := hS.stored2 (i := i) (k := 1) (by simpa using hi') (by omega) (gChild_ok ⟨xs[i].name, s⟩) (gChild_sz _) (f := .int .i64 s) (by rw [List.getElem_map]; rfl)
  refine st_of rfl cs 46 ⟨by rw [hm]; simp only [uni, g1, Option.some_or], g2⟩ ?_
  rw [hm, show ((GV.s (.int .i64 s)).flat = [.int .i64 s]) from rfl, uni_upd_l]
  exact hK _ (dis_upd_l hd (by rw [g1]; simp)) ⟨xs.set i ⟨xs[i].name, s⟩, by rw [List.length_set, hx], by rw [List.map_set]; exact g3⟩

theorem NodesOwn_spec (w : World) (u : PH) (hu : u.le w) (L : Lay) (T : PT) (hT : TM u L T) (hok : T.tells) :
    Spec Tryz.prog f_tree_Tree_Nodes [ptr (L .t)] PH.no w fun rs m' => ∃ v mn ma ts, rs = [.s v] ∧ m' = uni mn ma ∧ dis mn ma ∧ SlO mn v 39 4 (ts.map gTreeNode) ∧ TsOwn ma ts (nodesTold T) := by
  refine spec_of k_tree_Tree_Nodes [.g (.s (ptr (L .t)))] (by simp) (by simp [AV.ok, GV.ok, Value.oneCell', ptr]) ?_
  have hk : ∀ {l : List PH}, KN (⟨Tryz.prog, 38, w, PH.no⟩ : Ctx).u0 l u := kn_u hu
  have hkl : (nodesK T).length = T.nodes.length := by simp [nodesK, sortZ]
  have hfew := hok.few
  simp (maxSteps := 2000000) only [c_tree_Tree_Nodes, vc_seq, vc_rg, thenQ_n, kKeep_eq, segs_nil, segs_n, ops_nil, ops_cons, vcOp, ev, look, put_mk, keep_mk, keepL, Value.oneCell', cond_true, ↓reduceIte, reduceCtorEq, initF, initP, ptr]
  refine call_is _ [.s (.bool false)] rfl rfl (fun w' vs hv hw => ?_) ?_
  · obtain ⟨vs, rfl, _, hv⟩ := argsV_g hv
    obtain rfl := argsV_nil hv
    intro _
    exact none_spec (fun b o h => hw b o (by rw [u0_no]; exact hu b o h)) hT
  simp (maxSteps := 2000000) only [retS, vc_skip, vc_seq, vc_rg, vc_ite, thenQ_n, kKeep_eq, segs_nil, segs_n, ops_nil, ops_cons, vcOp, ev, look, put_mk, keep_mk, keepL, Value.oneCell', cond_true, ↓reduceIte, reduceCtorEq, ↓br_ft]
  refine gh_nil 3 3 39 4 (gTreeNode zTreeNode) rfl rfl ?_
  simp (maxSteps := 2000000) only [ops_cons, vcOp, ev, look, put_mk, ↓reduceIte, reduceCtorEq, Nat.add_zero]
  refine ld_of _ (hT.s_map hk) rfl ?_
  simp (maxSteps := 2000000) only [ops_cons, vcOp, put_mk]
  refine call_frzm rfl rfl (Q := KeysQ fKeysI1 (L .nb)) (fun w' vs hv hw _ _ => ?_) fun rs m1 _ hq => ?_
  · obtain ⟨vs, rfl, _, hv⟩ := argsV_g hv
    obtain rfl := argsV_nil hv
    exact keysI_spec w' (L .nb)
  obtain ⟨bm, e, rfl, hbm⟩ := hq
  simp (maxSteps := 2000000) only [retS, ops_cons, vcOp, put_mk]
  obtain ⟨o, idsV, h1, h2⟩ := hT.at .nb trivial
  have hkeys : (rawN L T.nodes).map keyI = T.nodes.map (·.1) := by simp [rawN, keyI, Function.comp_def]
  refine call_frzm rfl rfl (Q := fun rs m' => ∃ v, rs = [.s v] ∧ SlO m' v 2 1 ((nodesK T).map gi)) (fun w' vs hv hw hph _ => ?_) fun rs m2 _ hq => ?_
  · obtain ⟨vs, rfl, _, hv⟩ := argsV_g hv
    obtain rfl := argsV_nil hv
    have hm1 := hph m1 (by simp)
    have := sortedI_spec w' (L .nb) bm e (0, 0) o (rawN L T.nodes) w'.ph (fun _ _ h => h) (hm1 _ _ hbm) (hw _ _ (by rw [u0_no]; exact hu _ _ h1)) h2 (fun p hp => by
      obtain ⟨q, hq, rfl⟩ := List.mem_map.1 hp
      exact hok.keys q.1 q.2 (getA_of_mem hT.nod hq)) (by simp [rawN]; omega)
    rw [hkeys] at this
    exact this
  obtain ⟨v0, rfl, hv0⟩ := hq
  simp (maxSteps := 2000000) only [retS, ops_cons, vcOp, put_mk]
  refine gh_rk 14 14 (gi 0) rfl rfl hv0.toR (KN.mem (by simp)) ?_
  simp (maxSteps := 2000000) only [List.length_map, vc_block, thenQ_n, kKeep_eq, segs_nil, ops_nil, ops_cons, vcOp, ev, look, put_mk, keep_mk, keepL, Value.oneCell', cond_true, Nat.reduceEqDiff, ↓reduceIte, reduceCtorEq, List.length_map, List.length_map]
  refine vc_loop (ι := Nat × List TreeNode × PH) (fun q => ⟨[(0, .g (.s (.pointer (some ⟨L .t, 0, none⟩)))), (14, .row 14 0 ((nodesK T).length)), (15, .g (.s (.int .i64 ((nodesK T).length)))), (16, .g (.s (.int .i64 (q.1)))), (3, .row 3 0 (q.2.1.length))], [(14, .ro 1 (gi 0) ((nodesK T).map gi)), (3, .row 39 4 (gTreeNode zTreeNode) (q.2.1.map gTreeNode))], [m2, m1], q.2.2⟩)
    (fun q => q.1 ≤ (nodesK T).length ∧ q.2.1.length ≤ q.1 ∧ TsOwn q.2.2 q.2.1 (toldL T ((nodesK T).take q.1))) (fun q => (nodesK T).length - q.1) (0, [], PH.no) ⟨by simp, by simp, by simp [toldL, TsOwn]⟩ (ge_of ?_ ?_ rfl rfl rfl) ?_
  · simp [frIn, look]
  · simp [pvIn, look]
  rintro ⟨i, ts, mA⟩ ⟨hi, htl, hts⟩
  simp only at hi htl hts
  generalize hQ : loopQ _ _ _ _ _ = Q
  simp (maxSteps := 2000000) only [c_tree_Tree_Nodes_L0, getD_gi, vc_skip, vc_exit, vc_seq, vc_block, vc_rg, vc_ite, thenQ_n, thenQ_e, kKeep_eq, segs_nil, segs_n, ops_nil, ops_cons, vcOp, ev, look, put_mk, keep_mk, keepL, rowE, rowD, binV, binC, Nat.reduceEqDiff, ↓reduceIte, reduceCtorEq, Nat.zero_add, Bool.true_and, Bool.not_false, true_and, Int.toNat_natCast, decide_eq_true_eq, decide_eq_false_iff_not, br_t, getT_nil, getD_gi, fits_s, gTreeNode_zero]
  refine ⟨fun hlt => ⟨⟨by omega, by omega⟩, ?_⟩, fun hge => ?_⟩
  · obtain ⟨n, hn⟩ : ∃ n, (nodesK T).getD i 0 = n := ⟨_, rfl⟩
    have hmem : n ∈ nodesK T := by rw [← hn, List.getD_eq_getElem?_getD, List.getElem?_eq_getElem (by omega)]; exact List.getElem_mem _
    obtain ⟨x, hx⟩ := mem_nodesK hmem
    rw [hn]
    have hstep : toldL T ((nodesK T).take (i + 1)) = toldL T ((nodesK T).take i) ++ if (toldOf n x).shown = true then [toldOf n x] else [] := by
      rw [List.take_add_one]
      have e : (nodesK T)[i]?.toList = [n] := by
        rw [← hn, List.getD_eq_getElem?_getD, List.getElem?_eq_getElem (by omega)]; rfl
      rw [e]
      unfold toldL
      rw [List.filterMap_append, List.filter_append]
      congr 1
      simp only [List.filterMap_cons, hx, Option.map_some, List.filterMap_nil, List.filter_cons, List.filter_nil]
    refine call_ownm rfl rfl (Q := fun rs m' => ∃ v, rs = [gTreeNode ⟨n, x.parent, x.name, v⟩] ∧ SlO m' v 41 2 ((attrsOf x).map gAttr)) (fun w' vs hv hw _ _ => ?_) fun rs m3 _ hq hd3 => ?_
    · obtain ⟨vs, rfl, _, hv⟩ := argsV_g hv
      obtain ⟨vs, rfl, _, hv⟩ := argsV_g hv
      obtain rfl := argsV_nil hv
      exact told_spec w' u (fun b o h => hw b o (by rw [u0_no]; exact hu b o h)) L T hT n x hx (hok.small n x hx)
    obtain ⟨v, rfl, hv⟩ := hq
    obtain ⟨a, c, rfl⟩ : ∃ a c, v = .slice a (attrsOf x).length c := by
      rcases hv.2 with ⟨rfl, h3⟩ | ⟨ad, c, rfl, _⟩
      · have : attrsOf x = [] := by simpa using h3
        exact ⟨none, 0, by rw [this]; rfl⟩
      · exact ⟨some ad, c, by rw [List.length_map]⟩
    simp (maxSteps := 2000000) only [retS, vc_seq, vc_rg, thenQ_n, kKeep_eq, segs_nil, segs_n, ops_nil, ops_cons, vcOp, ev, look, updL, put_mk, put_mk0, keep_mk, keepL, Nat.reduceEqDiff, ↓reduceIte, reduceCtorEq, Bool.and_true, Bool.true_and, true_and, and_true, getT_nil, setT_nil, gTreeNode_sz, gTreeNode_same]
    refine call_fnv (top_fn n) rfl rfl rfl fun _ => ?_
    simp (maxSteps := 2000000) only [retS, vc_skip, vc_rg, vc_ite, thenQ_n, blockQ_n, kKeep_eq, segs_nil, segs_n, segs_g, ops_nil, ops_cons, vcOp, RO.isGh, skip_mk, skipL, ev, evL, gvL, look, updL, put_mk, keep_mk, keepL, rowE, binV, binC, unV, GV.getT, Value.oneCell', cond_true, cond_false, Nat.reduceEqDiff, Nat.reduceBEq, ↓reduceIte, reduceCtorEq, List.nil_append, Nat.zero_add, Bool.and_true, Bool.true_and, Bool.not_false, BEq.rfl, true_and, and_true, Option.map_some, szAll, List.length_cons, List.length_nil, decide_eq_true_eq, decide_eq_false_iff_not, kill, SV.mentions, ne_eq, not_false_eq_true, List.drop_zero, List.take_succ_cons, List.take_zero, ↓br_tt, ↓br_ft, br_t, br_f, getT_nil, List.length_map, fits_s, gTreeNode_sz, gTreeNode_fits, gTreeNode_fld3, gTreeNode_get3, List.length_map]
    have hup : TsOwn (uni m3 mA) ts (toldL T ((nodesK T).take i)) := hts.junk hd3
    have hnew : TsOwn (uni m3 mA) (ts ++ [⟨n, x.parent, x.name, .slice a (attrsOf x).length c⟩]) (toldL T ((nodesK T).take i) ++ [toldOf n x]) := TsOwn.snoc (t := ⟨n, x.parent, x.name, .slice a (attrsOf x).length c⟩) (a := toldOf n x) ⟨rfl, rfl, rfl, hv⟩ hd3 hts
    have goS : (toldOf n x).shown = true → ∀ (fr : List (Nat × SV)) (pv : List (Nat × PV)), frIn fr [(0, .g (.s (.pointer (some ⟨L .t, 0, none⟩)))), (14, .row 14 0 ((nodesK T).length)), (15, .g (.s (.int .i64 ((nodesK T).length)))), (16, .g (.s (.int .i64 ((i + 1 : Nat))))), (3, .row 3 0 (ts.length + 1))] →
        pvIn pv [(14, .ro 1 (gi 0) ((nodesK T).map gi)), (3, .row 39 4 (gTreeNode zTreeNode) (ts.map gTreeNode ++ [gTreeNode ⟨n, x.parent, x.name, .slice a (attrsOf x).length c⟩]))] → Q .normal ⟨fr, pv, [m2, m1], uni m3 mA⟩ := by
      intro hs fr pv hfr hpv
      subst hQ; simp only [loopQ_n]
      refine ⟨(i + 1, ts ++ [⟨n, x.parent, x.name, .slice a (attrsOf x).length c⟩], uni m3 mA), ⟨by simp only; omega, by simp; omega, ?_⟩, ?_, ge_of ?_ ?_ rfl rfl rfl⟩
      · simp only; rw [hstep, if_pos hs]; exact hnew
      · simp only; omega
      · simpa using hfr
      · simpa using hpv
    have goN : (toldOf n x).shown = false → ∀ (fr : List (Nat × SV)) (pv : List (Nat × PV)), frIn fr [(0, .g (.s (.pointer (some ⟨L .t, 0, none⟩)))), (14, .row 14 0 ((nodesK T).length)), (15, .g (.s (.int .i64 ((nodesK T).length)))), (16, .g (.s (.int .i64 ((i + 1 : Nat))))), (3, .row 3 0 (ts.length))] →
        pvIn pv [(14, .ro 1 (gi 0) ((nodesK T).map gi)), (3, .row 39 4 (gTreeNode zTreeNode) (ts.map gTreeNode))] → Q .normal ⟨fr, pv, [m2, m1], uni m3 mA⟩ := by
      intro hs fr pv hfr hpv
      subst hQ; simp only [loopQ_n]
      refine ⟨(i + 1, ts, uni m3 mA), ⟨by simp only; omega, by simp only; omega, ?_⟩, ?_, ge_of hfr hpv rfl rfl rfl⟩
      · simp only; rw [hstep, hs]; simpa using hup
      · simp only; omega
    have hlA : (attrsOf x).length = (toldOf n x).attrs.length := rfl
    have hnn : n = (toldOf n x).node := rfl
    refine ⟨fun ht => ⟨fun hl => ⟨by omega, goS ?_ _ _ ?_ ?_⟩, fun hl => goN ?_ _ _ ?_ ?_⟩, fun ht => ⟨by omega, goS ?_ _ _ ?_ ?_⟩⟩
    · rw [TN.shown, topB, ← hnn, ← hlA, decide_eq_true (by omega)]; simp
    · simp only [frIn, look, Nat.reduceEqDiff, ↓reduceIte, reduceCtorEq, Bool.and_true, Bool.true_and, true_and, and_true]
      rw [wrap_n (by omega)]
      try simp
    · simp [pvIn, look]
    · rw [TN.shown, topB, ← hnn, ← hlA, ht, decide_eq_false (by omega)]; rfl
    · simp only [frIn, look, Nat.reduceEqDiff, ↓reduceIte, reduceCtorEq, Bool.and_true, Bool.true_and, true_and, and_true]
      rw [wrap_n (by omega)]
      try simp
    · simp [pvIn, look]
    · rw [TN.shown, topB, ← hnn, ht]; rfl
    · simp only [frIn, look, Nat.reduceEqDiff, ↓reduceIte, reduceCtorEq, Bool.and_true, Bool.true_and, true_and, and_true]
      rw [wrap_n (by omega)]
      try simp
    · simp [pvIn, look]
  · subst hQ
    simp (maxSteps := 2000000) only [vc_seq, vc_rg, thenQ_n, blockQ_e, loopQ_e, segs_n, ops_cons, vcOp, ev, look, put_mk, ↓reduceIte, reduceCtorEq]
    refine gh_pub 2 3 ts.length rfl rfl (by simp) fun v m5 hv5 ho5 hd5 => ?_
    simp (maxSteps := 2000000) only [vc_ret, thenQ_n, kKeep_eq, finQ_r, segs_nil, ops_nil, look, keep_mk, keepL, cond_true, cond_false, Nat.reduceBEq, ↓reduceIte, BEq.rfl, kill, SV.mentions]
    have hfull : (nodesK T).take i = nodesK T := List.take_of_length_le (by omega)
    rw [hfull] at hts
    exact fin_m (rs := [.s v]) _ rfl (fun _ _ h => h) ⟨v, m5, mA, ts, rfl, rfl, hd5, ho5, hts⟩

theorem madeX_spec (w : World) (va : Value) (ops : List Op) (hb : ops.length ≤ 1048576) (ho : ∀ op ∈ ops, OpOk op) (u : PH) (hu : u.le w) (h : SlR u va 8 (ops.map gOp)) :
    Spec Tryz.prog f_law12_made [va] PH.no w fun rs m' => ∃ L T v, rs = [.s (ptr (L .t)), .s v] ∧ TM m' L T ∧ T = stepsT ops := by
  refine spec_of k_law12_made [.ro va 8 (gOp zOp) (ops.map gOp)] (by simp) (by simpa [AV.ok, u0_no] using h.up hu.sub) ?_
  simp (maxSteps := 2000000) only [c_law12_made, vc_seq, vc_rg, thenQ_n, kKeep_eq, segs_nil, segs_n, ops_nil, ops_cons, vcOp, ev, look, put_mk, keep_mk, keepL, Value.oneCell', cond_true, ↓reduceIte, reduceCtorEq, initF, initP, List.length_map, ptr, List.length_map]
  refine call_ownm rfl rfl (Q := fun rs m' => ∃ L, rs = [.s (ptr (L .t))] ∧ TM m' L T0) (fun w' vs hv hw _ _ => ?_) fun rs m1 _ hq _ => ?_
  · obtain rfl := argsV_nil hv
    exact New_spec w'
  obtain ⟨L0, rfl, hT0⟩ := hq
  simp (maxSteps := 2000000) only [retS, uni_no_r, vc_seq, vc_rg, thenQ_n, kKeep_eq, segs_nil, segs_n, ops_nil, ops_cons, vcOp, ev, look, put_mk, keep_mk, keepL, Value.oneCell', cond_true, ↓reduceIte, reduceCtorEq, ptr]
  refine eq_of (eqTree _) ?_
  simp (maxSteps := 2000000) only [vc_skip, vc_seq, vc_rg, vc_ite, thenQ_n, kKeep_eq, segs_nil, segs_n, ops_nil, ops_cons, vcOp, ev, look, put_mk, keep_mk, keepL, Value.oneCell', cond_true, Nat.reduceEqDiff, ↓reduceIte, reduceCtorEq, ↓br_ft, Bool.bne_false]
  refine gh_nil 5 5 72 13 (gUndo zUndo) rfl rfl ?_
  simp (maxSteps := 2000000) only [vc_block, thenQ_n, kKeep_eq, segs_nil, ops_nil, ops_cons, vcOp, ev, look, put_mk, keep_mk, keepL, Value.oneCell', cond_true, Nat.reduceEqDiff, ↓reduceIte, reduceCtorEq]
  refine vc_loop (ι := Nat × List Undo × Lay × PT × PH) (fun q => ⟨[(4, .g (.s (.pointer (some ⟨L0 .t, 0, none⟩)))), (13, .row 0 0 (ops.length)), (14, .g (.s (.int .i64 (ops.length)))), (15, .g (.s (.int .i64 (q.1)))), (5, .row 5 0 (q.2.1.length))], [(0, .ro 8 (gOp zOp) (ops.map gOp)), (5, .row 72 13 (gUndo zUndo) (q.2.1.map gUndo))], [], q.2.2.2.2⟩)
    (fun q => q.1 ≤ ops.length ∧ q.2.1.length ≤ q.1 ∧ q.2.2.1 .t = L0 .t ∧ TM q.2.2.2.2 q.2.2.1 q.2.2.2.1 ∧ q.2.2.2.1 = stepsT (ops.take q.1)) (fun q => ops.length - q.1) (0, [], L0, T0, m1) ⟨by simp, by simp, rfl, hT0, rfl⟩ (ge_of ?_ ?_ rfl rfl rfl) ?_
  · simp [frIn, look]
  · simp [pvIn, look]
  rintro ⟨i, us, L, T, mA⟩ ⟨hi, hul, hLt, hT, hTe⟩
  simp only at hi hul hLt hT hTe
  obtain ⟨hok, hgd, hkd⟩ := stepsT_all (ops.take i) fun op h => ho op (List.mem_of_mem_take h)
  rw [← hTe, List.length_take, Nat.min_eq_left hi] at hok
  rw [← hTe] at hgd hkd
  generalize hQ : loopQ _ _ _ _ _ = Q
  simp (maxSteps := 2000000) only [c_law12_made_L0, vc_skip, vc_exit, vc_seq, vc_block, vc_rg, vc_ite, thenQ_n, thenQ_e, kKeep_eq, segs_nil, segs_n, ops_nil, ops_cons, vcOp, ev, look, updL, put_mk, put_mk0, keep_mk, keepL, rowE, rowD, binV, binC, Nat.reduceEqDiff, ↓reduceIte, reduceCtorEq, Nat.zero_add, Bool.and_true, Bool.true_and, true_and, and_true, Int.toNat_natCast, decide_eq_true_eq, decide_eq_false_iff_not, br_t, getT_nil, setT_nil, gStamp_zero, gOp_sz, gOp_fits, gOp_same, gOp_zero, getD_gOp, gPlace_zero, gUndo_zero]
  refine ⟨fun hlt => ⟨⟨by omega, by omega⟩, ?_⟩, fun hge => ?_⟩
  · obtain ⟨op, hop⟩ : ∃ op, ops.getD i zOp = op := ⟨_, rfl⟩
    have hmem : op ∈ ops := by rw [← hop, List.getD_eq_getElem?_getD, List.getElem?_eq_getElem (by omega)]; exact List.getElem_mem _
    obtain ⟨hw1, hw2⟩ := ho op hmem
    have htk : ops.take (i + 1) = ops.take i ++ [op] := by
      rw [List.take_succ_eq_append_getElem (by omega), ← hop, List.getD_eq_getElem?_getD, List.getElem?_eq_getElem (by omega)]; rfl
    rw [hop]
    refine call_all (Q := fun rs m' => (mayA T op = false → rs = [gUndo zUndo, .s (.bool false)] ∧ TM m' L T) ∧ (mayA T op = true → ∃ L', L' .t = L0 .t ∧ L' .mk = L .mk ∧ rs = [gUndo (T.undo (ptr (L .mk)) op), .s (.bool true)] ∧ TM m' L' (T.does op))) rfl rfl (fun w' vs hv hw _ => ?_) fun rs m4 _ hq => ?_
    · obtain ⟨vs, rfl, _, hv⟩ := argsV_g hv
      obtain ⟨vs, rfl, _, hv⟩ := argsV_g hv
      obtain rfl := argsV_nil hv
      have := Do_spec w' mA L T op hw2 (ok_fits hok (by omega)) hT
      rw [hLt] at this
      exact this
    cases hmay : mayA T op
    · obtain ⟨rfl, hT4⟩ := hq.1 hmay
      simp (maxSteps := 2000000) only [retS, List.getElem?_cons_zero, List.getElem?_cons_succ, vc_skip, vc_seq, vc_rg, vc_ite, thenQ_n, blockQ_n, kKeep_eq, segs_nil, segs_n, ops_nil, ops_cons, vcOp, ev, look, updL, put_mk, put_mk0, keep_mk, keepL, binV, binC, Value.oneCell', cond_true, Nat.reduceEqDiff, ↓reduceIte, reduceCtorEq, Bool.and_true, Bool.true_and, true_and, and_true, ↓br_ft, getT_nil, setT_nil, gUndo_sz, gUndo_same]
      subst hQ; simp only [loopQ_n]; refine ⟨(i + 1, us, L, T, m4), ?_, ?_, ge_of ?_ ?_ rfl rfl rfl⟩
      · exact ⟨by simp only; omega, by simp only; omega, hLt, hT4, by simp only; rw [htk, stepsT_snoc, ← hTe, stepT, if_neg (by rw [hmay]; simp)]⟩
      · simp only; omega
      · simp only [frIn, look, Nat.reduceEqDiff, ↓reduceIte, Bool.and_true, Bool.true_and, true_and, and_true]
        rw [wrap_n (by omega)]
        try simp
      · simp [pvIn, look]
    · obtain ⟨L', hL1, hL2, rfl, hT4⟩ := hq.2 hmay
      simp (maxSteps := 2000000) only [retS, List.getElem?_cons_zero, List.getElem?_cons_succ, vc_seq, vc_rg, vc_ite, thenQ_n, blockQ_n, kKeep_eq, segs_nil, segs_n, ops_nil, ops_cons, vcOp, ev, evL, gvL, look, updL, put_mk, put_mk0, keep_mk, keepL, rowE, binV, binC, Value.oneCell', cond_true, cond_false, Nat.reduceEqDiff, Nat.reduceBEq, ↓reduceIte, reduceCtorEq, Nat.zero_add, Bool.and_true, Bool.true_and, BEq.rfl, true_and, and_true, Option.map_some, szAll, List.length_cons, List.length_nil, kill, SV.mentions, ne_eq, not_false_eq_true, List.drop_zero, List.take_succ_cons, List.take_zero, ↓br_tt, getT_nil, setT_nil, List.length_map, gUndo_sz, gUndo_fits, gUndo_same, ptr, List.length_map]
      refine ⟨by omega, ?_⟩
      subst hQ; simp only [loopQ_n]; refine ⟨(i + 1, us ++ [T.undo (ptr (L .mk)) op], L', T.does op, m4), ?_, ?_, ge_of ?_ ?_ rfl rfl rfl⟩
      · exact ⟨by simp only; omega, by simp only [List.length_append, List.length_cons, List.length_nil]; omega, hL1, hT4, by simp only; rw [htk, stepsT_snoc, ← hTe, stepT, if_pos hmay]⟩
      · simp only; omega
      · simp only [frIn, look, Nat.reduceEqDiff, ↓reduceIte, Nat.zero_add, Bool.and_true, Bool.true_and, true_and, and_true, List.length_cons, List.length_nil, List.length_append, List.length_cons, List.length_nil]
        rw [wrap_n (by omega)]
        try simp
      · simp only [pvIn, look, ↓reduceIte, reduceCtorEq, Bool.and_true, Bool.true_and, true_and, and_true, List.map_cons, List.map_nil, List.map_append, List.map_cons, List.map_nil]
        try simp
        try rfl
  · subst hQ
    simp (maxSteps := 2000000) only [vc_seq, vc_rg, thenQ_n, blockQ_e, loopQ_e, segs_n, ops_cons, vcOp, ev, look, put_mk, Nat.reduceEqDiff, ↓reduceIte]
    refine gh_pub 3 5 us.length rfl rfl (by simp) fun v m5 hv5 ho5 hd5 => ?_
    simp (maxSteps := 2000000) only [vc_ret, thenQ_n, kKeep_eq, finQ_r, segs_nil, ops_nil, look, keep_mk, keepL, cond_true, cond_false, Nat.reduceEqDiff, Nat.reduceBEq, ↓reduceIte, BEq.rfl, kill, SV.mentions]
    have hi' : i = ops.length := by omega
    exact fin_m (rs := [.s (ptr (L .t)), .s v]) mA (by rw [hLt]; rfl) (sub_uni_r hd5) ⟨L, T, v, rfl, hT, by rw [hTe, hi', List.take_length]⟩
end Go.Proofs.YtdpknchgoeboaaaGreat.Vc

/- The code of some functions of the program, its types resolved: printed by a program of this claim. -/
set_option linter.unusedVariables false
set_option maxRecDepth 100000
namespace Go.Proofs.YtdpknchgoeboaaaGreat.Vc
open Go Go.Proofs

abbrev f_law12_TreeOwn : Nat := 3
def c_law12_TreeOwn_L0 : Cd :=
 (.seq (.rg [⟨none, [(some 44, .bin .lss (.t 43) (.t 42))]⟩] [1, 5, 7, 41, 42, 43, 44])
 (.seq (.ite (.t 44)
 .skip
 (.exit 0))
 (.seq (.block 1 (.seq (.rg [⟨none, [(some 45, .idxS (.t 41) (.t 43) 8), (some 46, .ld (.t 45) 8 true), (some 9, .new 34 (.c (.c (.s (.int .i64 0)) (.c (.s (.int .i64 0)) .u)) (.c (.s (.int .i64 0)) (.c (.s (.int .i64 0)) (.c (.s (.int .i64 0)) (.c (.s (.string ⟨#[]⟩)) (.c (.s (.string ⟨#[]⟩)) (.c (.s (.string ⟨#[]⟩)) .u)))))))), (none, .st (.t 9) (.t 46) 8)]⟩] [1, 5, 7, 9, 41, 42, 43])
 (.rg [⟨none, [(some 47, .mv (.t 7)), (some 48, .ld (.t 9) 8 true), (some 49, .call 8 [(.t 47), (.t 48)])]⟩] [1, 5, 7, 41, 42, 43])))
 (.rg [⟨none, [(some 50, .bin .add (.t 43) (.c (.int .i64 1))), (some 43, .mv (.t 50))]⟩] [1, 5, 7, 41, 42, 43]))))
def c_law12_TreeOwn_L1 : Cd :=
 (.seq (.rg [⟨none, [(some 62, .bin .lss (.t 61) (.t 60))]⟩] [1, 5, 7, 11, 52, 53, 54, 60, 61, 62])
 (.seq (.ite (.t 62)
 .skip
 (.exit 4))
 (.seq (.block 5 (.seq (.rg [⟨none, [(some 63, .mv (.t 61)), (some 12, .mv (.t 63))]⟩] [1, 5, 7, 11, 12, 52, 53, 54, 60, 61])
 (.rg [⟨none, [(some 64, .fldA (.t 11) 3 3), (some 65, .ld (.t 64) 1 false), (some 66, .mv (.t 12)), (some 67, .idxS (.t 65) (.t 66) 2), (some 68, .fldA (.t 67) 1 1), (none, .st (.t 68) (.c (.string ⟨#[115, 112, 111, 105, 108, 116]⟩)) 1)]⟩] [1, 5, 7, 11, 52, 53, 54, 60, 61])))
 (.rg [⟨none, [(some 69, .bin .add (.t 61) (.c (.int .i64 1))), (some 61, .mv (.t 69))]⟩] [1, 5, 7, 11, 52, 53, 54, 60, 61]))))
def c_law12_TreeOwn_L2 : Cd :=
 (.seq (.rg [⟨none, [(some 87, .bin .lss (.t 86) (.t 85))]⟩] [1, 5, 7, 11, 14, 52, 53, 54, 78, 79, 80, 85, 86, 87])
 (.seq (.ite (.t 87)
 .skip
 (.exit 8))
 (.seq (.block 9 (.seq (.rg [⟨none, [(some 88, .mv (.t 86)), (some 15, .mv (.t 88))]⟩] [1, 5, 7, 11, 14, 15, 52, 53, 54, 78, 79, 80, 85, 86])
 (.rg [⟨none, [(some 89, .mv (.t 14)), (some 90, .mv (.t 15)), (some 91, .idxS (.t 89) (.t 90) 2), (some 92, .fldA (.t 91) 1 1), (none, .st (.t 92) (.c (.int .i64 (-9))) 1)]⟩] [1, 5, 7, 11, 14, 52, 53, 54, 78, 79, 80, 85, 86])))
 (.rg [⟨none, [(some 93, .bin .add (.t 86) (.c (.int .i64 1))), (some 86, .mv (.t 93))]⟩] [1, 5, 7, 11, 14, 52, 53, 54, 78, 79, 80, 85, 86]))))
def c_law12_TreeOwn_L3 : Cd :=
 (.seq (.rg [⟨none, [(some 81, .bin .lss (.t 80) (.t 79))]⟩] [1, 5, 7, 11, 52, 53, 54, 78, 79, 80, 81])
 (.seq (.ite (.t 81)
 .skip
 (.exit 6))
 (.seq (.block 7 (.seq (.rg [⟨none, [(some 82, .idxS (.t 78) (.t 80) 1), (some 83, .ld (.t 82) 1 false), (some 14, .mv (.t 83))]⟩] [1, 5, 7, 11, 14, 52, 53, 54, 78, 79, 80])
 (.seq (.rg [⟨none, [(some 84, .mv (.t 14)), (some 85, .len (.t 84)), (some 86, .mv (.c (.int .i64 0)))]⟩] [1, 5, 7, 11, 14, 52, 53, 54, 78, 79, 80, 85, 86])
 (.block 8 (.loop c_law12_TreeOwn_L2)))))
 (.rg [⟨none, [(some 94, .bin .add (.t 80) (.c (.int .i64 1))), (some 80, .mv (.t 94))]⟩] [1, 5, 7, 11, 52, 53, 54, 78, 79, 80]))))
def c_law12_TreeOwn_L4 : Cd :=
 (.seq (.rg [⟨none, [(some 106, .bin .lss (.t 105) (.t 104))]⟩] [1, 5, 7, 16, 52, 53, 54, 104, 105, 106])
 (.seq (.ite (.t 106)
 .skip
 (.exit 10))
 (.seq (.block 11 (.seq (.rg [⟨none, [(some 107, .mv (.t 105)), (some 18, .mv (.t 107))]⟩] [1, 5, 7, 16, 18, 52, 53, 54, 104, 105])
 (.rg [⟨none, [(some 108, .fldA (.t 16) 3 3), (some 109, .ld (.t 108) 1 false), (some 110, .mv (.t 18)), (some 111, .idxS (.t 109) (.t 110) 2), (some 112, .fldA (.t 111) 0 0), (none, .st (.t 112) (.c (.string ⟨#[115, 112, 111, 105, 108, 116]⟩)) 1)]⟩] [1, 5, 7, 16, 52, 53, 54, 104, 105])))
 (.rg [⟨none, [(some 113, .bin .add (.t 105) (.c (.int .i64 1))), (some 105, .mv (.t 113))]⟩] [1, 5, 7, 16, 52, 53, 54, 104, 105]))))
def c_law12_TreeOwn_L5 : Cd :=
 (.seq (.rg [⟨none, [(some 55, .bin .lss (.t 54) (.t 53))]⟩] [1, 5, 7, 52, 53, 54, 55])
 (.seq (.ite (.t 55)
 .skip
 (.exit 2))
 (.seq (.block 3 (.seq (.rg [⟨none, [(some 56, .idxS (.t 52) (.t 54) 4), (some 57, .ld (.t 56) 4 true), (some 11, .new 39 (.c (.s (.int .i64 0)) (.c (.s (.int .i64 0)) (.c (.s (.string ⟨#[]⟩)) (.c (.s (.slice none 0 0)) .u))))), (none, .st (.t 11) (.t 57) 4)]⟩] [1, 5, 7, 11, 52, 53, 54])
 (.seq (.seq (.rg [⟨none, [(some 58, .fldA (.t 11) 3 3), (some 59, .ld (.t 58) 1 false), (some 60, .len (.t 59)), (some 61, .mv (.c (.int .i64 0)))]⟩] [1, 5, 7, 11, 52, 53, 54, 60, 61])
 (.block 4 (.loop c_law12_TreeOwn_L1)))
 (.seq (.seq (.rga (.op ⟨none, [(some 70, .mv (.t 5))]⟩ (.op ⟨none, [(some 71, .fldA (.t 11) 0 0)]⟩ (.op ⟨none, [(some 74, .mv (.t 5))]⟩ (.op ⟨none, [(some 75, .fldA (.t 11) 1 1)]⟩ (.op ⟨none, [(some 80, .mv (.c (.int .i64 0)))]⟩ (.or (.op ⟨none, [(some 72, .ld (.t 71) 1 false)]⟩ (.or (.op ⟨none, [(some 73, .call 10 [(.t 70), (.t 72)])]⟩ (.op ⟨none, [(some 76, .ld (.t 75) 1 false)]⟩ (.op ⟨none, [(some 77, .call 10 [(.t 74), (.t 76)])]⟩ (.op ⟨none, [(some 78, .bldS 42 1 (.s (.slice none 0 0)) [(.t 73), (.t 77)])]⟩ (.op ⟨none, [(some 79, .len (.t 78))]⟩ .done))))) (.op ⟨none, [(some 76, .ld (.t 75) 1 false)]⟩ (.op ⟨none, [(some 73, .call 10 [(.t 70), (.t 72)])]⟩ (.op ⟨none, [(some 77, .call 10 [(.t 74), (.t 76)])]⟩ (.op ⟨none, [(some 78, .bldS 42 1 (.s (.slice none 0 0)) [(.t 73), (.t 77)])]⟩ (.op ⟨none, [(some 79, .len (.t 78))]⟩ .done))))))) (.op ⟨none, [(some 76, .ld (.t 75) 1 false)]⟩ (.op ⟨none, [(some 72, .ld (.t 71) 1 false)]⟩ (.op ⟨none, [(some 73, .call 10 [(.t 70), (.t 72)])]⟩ (.op ⟨none, [(some 77, .call 10 [(.t 74), (.t 76)])]⟩ (.op ⟨none, [(some 78, .bldS 42 1 (.s (.slice none 0 0)) [(.t 73), (.t 77)])]⟩ (.op ⟨none, [(some 79, .len (.t 78))]⟩ .done)))))))))))) [1, 5, 7, 11, 52, 53, 54, 78, 79, 80])
 (.block 6 (.loop c_law12_TreeOwn_L3)))
 (.seq (.rg [⟨none, [(some 96, .mv (.t 5)), (some 97, .fldA (.t 11) 0 0), (some 98, .ld (.t 97) 1 false), (some 99, .call 11 [(.t 96), (.t 98)]), (some 95, .mv (.t 99)), (some 100, .ext (.t 95) 0), (some 101, .ext (.t 95) 1), (some 16, .new 39 (.c (.s (.int .i64 0)) (.c (.s (.int .i64 0)) (.c (.s (.string ⟨#[]⟩)) (.c (.s (.slice none 0 0)) .u))))), (none, .st (.t 16) (.t 100) 4), (some 17, .mv (.t 101))]⟩] [1, 5, 7, 16, 52, 53, 54])
 (.seq (.rg [⟨none, [(some 102, .fldA (.t 16) 3 3), (some 103, .ld (.t 102) 1 false), (some 104, .len (.t 103)), (some 105, .mv (.c (.int .i64 0)))]⟩] [1, 5, 7, 16, 52, 53, 54, 104, 105])
 (.block 10 (.loop c_law12_TreeOwn_L4))))))))
 (.rg [⟨none, [(some 114, .bin .add (.t 54) (.c (.int .i64 1))), (some 54, .mv (.t 114))]⟩] [1, 5, 7, 52, 53, 54]))))
def c_law12_TreeOwn_L6 : Cd :=
 (.seq (.rg [⟨none, [(some 124, .bin .lss (.t 123) (.t 122))]⟩] [1, 19, 121, 122, 123, 124])
 (.seq (.ite (.t 124)
 .skip
 (.exit 12))
 (.seq (.block 13 (.seq (.rg [⟨none, [(some 125, .idxS (.t 121) (.t 123) 4), (some 126, .ld (.t 125) 4 true), (some 21, .new 39 (.c (.s (.int .i64 0)) (.c (.s (.int .i64 0)) (.c (.s (.string ⟨#[]⟩)) (.c (.s (.slice none 0 0)) .u))))), (none, .st (.t 21) (.t 126) 4)]⟩] [1, 19, 21, 121, 122, 123])
 (.seq (.rg [⟨none, [(some 127, .fldA (.t 21) 3 3), (some 128, .ld (.t 127) 1 false), (none, .gh), (some 129, .app 41 2 32 (.c (.s (.string ⟨#[]⟩)) (.c (.s (.string ⟨#[]⟩)) .u)) (.c (.slice none 0 0)) (.t 128)), (none, .gh), (some 130, .fldA (.t 21) 3 3), (none, .st (.t 130) (.t 129) 1)]⟩] [1, 19, 21, 121, 122, 123])
 (.rg [⟨none, [(some 131, .mv (.t 19)), (some 132, .ld (.t 21) 4 true), (some 133, .bldS 39 4 (.c (.s (.int .i64 0)) (.c (.s (.int .i64 0)) (.c (.s (.string ⟨#[]⟩)) (.c (.s (.slice none 0 0)) .u)))) [(.t 132)]), (some 134, .app 39 4 56 (.c (.s (.int .i64 0)) (.c (.s (.int .i64 0)) (.c (.s (.string ⟨#[]⟩)) (.c (.s (.slice none 0 0)) .u)))) (.t 131) (.t 133)), (some 19, .mv (.t 134))]⟩] [1, 19, 121, 122, 123]))))
 (.rg [⟨none, [(some 135, .bin .add (.t 123) (.c (.int .i64 1))), (some 123, .mv (.t 135))]⟩] [1, 19, 121, 122, 123]))))
def c_law12_TreeOwn_L7 : Cd :=
 (.seq (.rg [⟨none, [(some 160, .bin .lss (.t 159) (.t 158))]⟩] [1, 22, 23, 27, 150, 151, 152, 158, 159, 160])
 (.seq (.ite (.t 160)
 .skip
 (.exit 16))
 (.seq (.block 17 (.seq (.rg [⟨none, [(some 161, .mv (.t 159)), (some 28, .mv (.t 161))]⟩] [1, 22, 23, 27, 28, 150, 151, 152, 158, 159])
 (.rg [⟨none, [(some 162, .fldA (.t 27) 3 3), (some 163, .ld (.t 162) 1 false), (some 164, .mv (.t 28)), (some 165, .idxS (.t 163) (.t 164) 2), (some 166, .fldA (.t 165) 1 1), (none, .st (.t 166) (.c (.string ⟨#[115, 112, 111, 105, 108, 116]⟩)) 1)]⟩] [1, 22, 23, 27, 150, 151, 152, 158, 159])))
 (.rg [⟨none, [(some 167, .bin .add (.t 159) (.c (.int .i64 1))), (some 159, .mv (.t 167))]⟩] [1, 22, 23, 27, 150, 151, 152, 158, 159]))))
def c_law12_TreeOwn_L8 : Cd :=
 (.seq (.rg [⟨none, [(some 153, .bin .lss (.t 152) (.t 151))]⟩] [1, 22, 23, 150, 151, 152, 153])
 (.seq (.ite (.t 153)
 .skip
 (.exit 14))
 (.seq (.block 15 (.seq (.rg [⟨none, [(some 154, .idxS (.t 150) (.t 152) 4), (some 155, .ld (.t 154) 4 true), (some 27, .new 39 (.c (.s (.int .i64 0)) (.c (.s (.int .i64 0)) (.c (.s (.string ⟨#[]⟩)) (.c (.s (.slice none 0 0)) .u))))), (none, .st (.t 27) (.t 155) 4)]⟩] [1, 22, 23, 27, 150, 151, 152])
 (.seq (.rg [⟨none, [(some 156, .fldA (.t 27) 3 3), (some 157, .ld (.t 156) 1 false), (some 158, .len (.t 157)), (some 159, .mv (.c (.int .i64 0)))]⟩] [1, 22, 23, 27, 150, 151, 152, 158, 159])
 (.block 16 (.loop c_law12_TreeOwn_L7)))))
 (.rg [⟨none, [(some 168, .bin .add (.t 152) (.c (.int .i64 1))), (some 152, .mv (.t 168))]⟩] [1, 22, 23, 150, 151, 152]))))
def c_law12_TreeOwn : Cd :=
 (.seq (.rg [⟨none, [(some 4, .mv (.c (.bool false)))]⟩] [0, 1])
 (.seq (.rg [⟨none, [(some 30, .mv (.t 0)), (some 31, .call 5 [(.t 30)]), (some 29, .mv (.t 31)), (some 32, .ext (.t 29) 0), (some 33, .ext (.t 29) 1), (some 5, .mv (.t 32)), (some 6, .mv (.t 33))]⟩] [0, 1, 5])
 (.seq (.rg [⟨none, [(some 34, .call 6 []), (some 7, .mv (.t 34))]⟩] [0, 1, 5, 7])
 (.seq (.seq (.rg [⟨none, [(some 35, .call 7 []), (some 36, .un .not (.t 35)), (some 37, .mv (.t 36))]⟩, ⟨some (37, false), [(some 38, .mv (.t 5)), (some 39, .eqA false 24 (.t 38) (.c (.pointer none)))]⟩, ⟨none, [(some 40, .pick (.t 37) (.c (.bool true)) (.t 39))]⟩] [0, 1, 5, 7, 40])
 (.ite (.t 40)
 (.seq (.rg [⟨none, [(some 4, .mv (.c (.bool false)))]⟩] [4])
 .ret)
 .skip))
 (.seq (.seq (.rg [⟨none, [(some 41, .mv (.t 0)), (some 42, .len (.t 41)), (some 43, .mv (.c (.int .i64 0)))]⟩] [1, 5, 7, 41, 42, 43])
 (.block 0 (.loop c_law12_TreeOwn_L0)))
 (.seq (.seq (.rg [⟨none, [(none, .gh), (some 51, .mv (.t 5)), (some 52, .call 9 [(.t 51)]), (none, .gh), (some 53, .len (.t 52)), (some 54, .mv (.c (.int .i64 0)))]⟩] [1, 5, 7, 52, 53, 54])
 (.block 2 (.loop c_law12_TreeOwn_L5)))
 (.seq (.seq (.rg [⟨none, [(some 115, .mv (.t 5)), (some 116, .call 9 [(.t 115)]), (some 117, .mv (.t 7)), (some 118, .call 13 [(.t 117)]), (some 119, .call 12 [(.t 116), (.t 118)]), (some 120, .un .not (.t 119))]⟩] [1, 120])
 (.ite (.t 120)
 (.seq (.rg [⟨none, [(some 4, .mv (.c (.bool false)))]⟩] [4])
 .ret)
 .skip))
 (.seq (.rg [⟨none, [(some 19, .mv (.c (.slice none 0 0)))]⟩] [1, 19])
 (.seq (.seq (.rg [⟨none, [(none, .gh), (some 121, .mv (.t 1)), (some 122, .len (.t 121)), (some 123, .mv (.c (.int .i64 0)))]⟩] [1, 19, 121, 122, 123])
 (.block 12 (.loop c_law12_TreeOwn_L6)))
 (.seq (.rg [⟨none, [(none, .gh), (some 137, .mv (.t 19)), (some 138, .call 14 [(.t 137)]), (some 136, .mv (.t 138)), (some 139, .ext (.t 136) 0), (some 140, .ext (.t 136) 1), (some 22, .mv (.t 139)), (some 23, .mv (.t 140))]⟩] [1, 19, 22, 23])
 (.seq (.seq (.rg [⟨none, [(some 142, .mv (.t 1)), (some 143, .call 15 [(.t 142)]), (some 141, .mv (.t 143)), (some 144, .ext (.t 141) 0), (some 145, .ext (.t 141) 1), (some 24, .mv (.t 144)), (some 25, .mv (.t 145))]⟩] [1, 19, 22, 23, 25])
 (.seq (.rg [⟨none, [(some 146, .mv (.t 25)), (some 147, .mv (.t 23)), (some 148, .bin .eql (.t 147) (.c (.int .i64 0))), (some 149, .eqA true 4 (.t 146) (.t 148))]⟩] [1, 19, 22, 23, 149])
 (.ite (.t 149)
 (.seq (.rg [⟨none, [(some 4, .mv (.c (.bool false)))]⟩] [4])
 .ret)
 .skip)))
 (.seq (.seq (.rg [⟨none, [(some 150, .mv (.t 19)), (none, .gh), (some 151, .len (.t 150)), (some 152, .mv (.c (.int .i64 0)))]⟩] [1, 22, 23, 150, 151, 152])
 (.block 14 (.loop c_law12_TreeOwn_L8)))
 (.seq (.rg [⟨none, [(some 169, .mv (.t 23)), (some 170, .bin .neq (.t 169) (.c (.int .i64 0))), (some 171, .mv (.t 170))]⟩, ⟨some (171, false), [(some 172, .mv (.t 22)), (some 173, .call 9 [(.t 172)]), (some 174, .mv (.t 1)), (some 175, .call 16 [(.t 174)]), (some 176, .call 12 [(.t 173), (.t 175)])]⟩, ⟨none, [(some 177, .pick (.t 171) (.c (.bool true)) (.t 176)), (some 4, .mv (.t 177))]⟩] [4])
 .ret)))))))))))))
theorem k_law12_TreeOwn : Ok Tryz.prog 3 c_law12_TreeOwn 178 [(18, 999999)] [.tmp 4] := Ok.mk' Tryz.func3 (by kernel_rfl) (by kernel_rfl) (by kernel_rfl)

end Go.Proofs.YtdpknchgoeboaaaGreat.Vc

