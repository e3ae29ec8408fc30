/- Part 4 of what a law of this seat rests on. -/
import Derived.Shelf.SlIterI.Sorted
import Derived.Shelf.SlIter.Sorted
import Derived.Shelf.SortM.Plain
import Derived.Shelf.SortM.SortNone
import Derived.Ground.GgzProg
import Derived.Ground.SlgmProg
import Derived.Test.YtmjiojflncffeaaGreatProg
import Derived.Lib.SlKeysI
import Derived.ChangeSame
import Derived.JoinedOf
import Derived.JoinedAt
import Derived.JoinedStill
import Derived.WideKeyArgs
import Derived.OpenShut
import Derived.Deep.Slices
import Derived.SizedLaws
import Derived.HandedShaped
import Derived.Test.YtmjiojflncffeaaGreatRows
import Derived.Deep.DeepHandedRow
import Derived.LaidLaws
import Derived.Test.YtmjiojflncffeaaGreatZOa83
/- What a tree does. -/
set_option linter.unusedVariables false
set_option linter.unusedSimpArgs false
set_option maxRecDepth 100000
namespace Go.Proofs.YtmjiojflncffeaaGreat.Vc
open Go Go.Proofs

theorem TreeM.setLast {e : TypeId} {σ : SS} {L : Lay} {T : PT} {d : Option Nat} {K : KT} {n : Int} (h : TreeM e σ.m L T) (hK : ∀ m', TreeM e m' L { T with last := n } → K ({ σ with m := m' }.put d .no)) : stK σ (L .t) 4 1 (.s (.int .i64 n)) d K := by
  obtain ⟨mi, mt, idsV, hm, hd, hi, ht⟩ := h
  obtain ⟨o, h1, e', rfl⟩ := ht.has .t trivial trivial
  obtain ⟨h2, h3⟩ := uni_r hd h1
  refine st_of rfl _ e' ⟨by rw [hm]; exact h2, by simp⟩ (hK _ ?_)
  rw [hm, uni_upd h3]
  refine ⟨mi, _, idsV, rfl, dis_upd hd h3, hi, ⟨fun s _ hs => ?_, fun a b _ _ ha hb => ht.sep a b trivial trivial ha hb, ht.nod⟩⟩
  by_cases hst : s = .t
  · subst hst
    exact ⟨_, upd_self _ _ _, e', rfl⟩
  · obtain ⟨o2, g1, g2⟩ := ht.has s trivial hs
    refine ⟨o2, by rw [upd_ne (fun q => hst (ht.sep s .t trivial trivial hs trivial q))]; exact g1, ?_⟩
    cases s with
    | t => exact absurd rfl hst
    | nb => exact g2
    | mk => trivial
    | nd k => exact g2
    | ab k => exact g2
    | kb k => exact g2

theorem kn_uni {u0 : PH} {L : List PH} {a b : PH} (h : dis a b) : KN u0 (uni a b :: L) b := fun j o hj => .inr ⟨_, by simp, sub_uni_r h j o hj⟩

/-- Another list of what was done. -/
theorem TreeM.setIds {e : TypeId} {σ : SS} {L : Lay} {T : PT} {d : Option Nat} {K : KT} {mt ui : PH} {idsV v : Value} {ids : List Int} (hm : σ.m = uni ui mt) (hd : dis ui mt) (ht : TreeT (fun _ => True) mt L T idsV) (hv : SlO ui v e 1 (ids.map gi))
    (hK : ∀ m', TreeM e m' L { T with ids := ids } → K ({ σ with m := m' }.put d .no)) : stK σ (L .t) 3 1 (.s v) d K := by
  obtain ⟨o, h1, e', rfl⟩ := ht.has .t trivial trivial
  obtain ⟨h2, h3⟩ := uni_r hd h1
  refine st_of rfl _ e' ⟨by rw [hm]; exact h2, by simp⟩ (hK _ ?_)
  rw [hm, uni_upd h3]
  refine ⟨ui, _, v, rfl, dis_upd hd h3, hv, ⟨fun s _ hs => ?_, fun a b _ _ ha hb => ht.sep a b trivial trivial ha hb, ht.nod⟩⟩
  by_cases hst : s = .t
  · subst hst
    exact ⟨_, upd_self _ _ _, e', rfl⟩
  · obtain ⟨o2, g1, g2⟩ := ht.has s trivial hs
    refine ⟨o2, by rw [upd_ne (fun q => hst (ht.sep s .t trivial trivial hs trivial q))]; exact g1, ?_⟩
    cases s with
    | t => exact absurd rfl hst
    | nb => exact g2
    | mk => trivial
    | nd k => exact g2
    | ab k => exact g2
    | kb k => exact g2

theorem TreeM.mupAdd {e : TypeId} {σ : SS} {L : Lay} {T : PT} {d : Option Nat} {K : KT} {n : Int} {m mb : PH} {b a k : Nat} (h : TreeM e m L T) (hb : BareM mb b a k) (hd : dis mb m) (hn : T.get n = none) (hm : σ.m = uni mb m)
    (hK : ∀ m', TreeM e m' (L.add n b a k) (T.add n) → K ({ σ with m := m' }.put d .no)) : mupK (some .i64) (L .nb) (.int .i64 n) (.pointer (some ⟨b, 0, none⟩)) d K σ := by
  obtain ⟨o, idsV, h1, h2⟩ := h.at .nb trivial
  refine ⟨o, _, by rw [hm]; exact (uni_r hd h1).1, h2, rfl, fun o' ho' => ?_⟩
  rw [hm]
  exact hK _ (h.add hb hd hn ho')

theorem put_ids (T : PT) (n : Int) (p : Place) : (T.put n p).ids = T.ids := by
  unfold PT.put
  cases T.get n <;> rfl
/-- A call that has all of one's memory. -/
theorem call_all {C : Ctx} {σ : SS} {f : Nat} {args : List Opd} {d : Option Nat} {K : KT} {svs : List SV} {Q : List GV → PH → Prop} (hd : dOk d C.N = true) (ha : evL σ args = some svs)
    (hs : ∀ w vs, ArgsV C σ w svs vs → C.u0.le w → (∀ u ∈ σ.ph, u.le w) → Spec C.P f vs σ.m w Q) (hK : ∀ rs m', (∀ r ∈ rs, r.ok) → Q rs m' → K ({ σ with m := m' }.put d (retS rs))) : vcCall C f args d K σ :=
  call_with σ.m PH.no (dOk_spec hd) ha (uni_no_r _).symm (dis_no_r _) hs fun rs m' h1 h2 _ => by rw [uni_no_r]; exact hK rs m' h1 h2

theorem TreeM.lkA {C : Ctx} {e : TypeId} {u : PH} {σ : SS} {L : Lay} {T : PT} {d : Option Nat} {K : KT} {k : Int} {x : PN} {key : ByteArray} (h : TreeM e u L T) (hk : KN C.u0 (σ.m :: σ.ph) u) (hx : T.get k = some x)
    (hK : K (σ.put d (.g (.s (.string ((getS x.attrs key).getD ⟨#[]⟩)))))) : mlkK C none (L (.ab k)) (.string key) (.string ⟨#[]⟩) false d K σ := by
  obtain ⟨o, h1, h2⟩ := h.s_attrs hk hx
  refine ⟨o, _, h1, h2, trivial, ?_⟩
  unfold lkS
  rw [mget_rawA]
  cases hg : getS x.attrs key with
  | none => rw [hg] at hK; exact hK
  | some y => rw [hg] at hK; exact hK

/-- What an operation makes of a tree, ahead of its number's keeping; what tells how it is taken back. -/
def PT.acts (T : PT) (op : Op) : PT :=
  if op.kind = 1 then (T.add op.node).put op.node ⟨op.parent, op.name⟩
  else if op.kind = 2 then T.put op.node ⟨op.parent, op.name⟩
  else T.attr op.node op.key op.value
def PT.undo (T : PT) (mk : Value) (op : Op) : Undo :=
  match T.get op.node with
  | .none => ⟨mk, T.last + 1, op, zPlace, ⟨#[]⟩⟩
  | some x => if op.kind = 1 then ⟨mk, T.last + 1, op, zPlace, ⟨#[]⟩⟩ else if op.kind = 2 then ⟨mk, T.last + 1, op, ⟨x.parent, x.name⟩, ⟨#[]⟩⟩ else ⟨mk, T.last + 1, op, zPlace, (getS x.attrs op.key).getD ⟨#[]⟩⟩
def PT.does (T : PT) (op : Op) : PT := { ({ T with last := T.last + 1 } : PT).acts op with ids := T.ids ++ [T.last + 1] }
def PT.fits (T : PT) : Prop := T.nodes.length < 4611686018427387904 ∧ 0 ≤ T.last ∧ T.last < 4611686018427387904 ∧ T.ids.length < 1099511627776

theorem Do_spec (w : World) (m : PH) (L : Lay) (T : PT) (op : Op) (hb : op.name.size ≤ 140737488355328) (hf : T.fits) (hT : TM m L T) :
    Spec Tryz.prog f_tree_Tree_Do [ptr (L .t), (gOp op).val] m w fun rs m' =>
      (mayA T op = false → rs = [gUndo zUndo, .s (.bool false)] ∧ TM m' L T) ∧
      (mayA T op = true → ∃ L', L' .t = L .t ∧ L' .mk = L .mk ∧ rs = [gUndo (T.undo (ptr (L .mk)) op), .s (.bool true)] ∧ TM m' L' (T.does op)) := by
  refine spec_of k_tree_Tree_Do [.g (.s (ptr (L .t))), .g (gOp op)] (by simp) (by simp [AV.ok, GV.ok, Value.oneCell', ptr, gOp_ok]) ?_
  simp (maxSteps := 2000000) only [c_tree_Tree_Do, vc_seq, vc_rg, thenQ_n, kKeep_eq, segs_nil, segs_n, ops_nil, ops_cons, vcOp, ev, look, updL, put_mk, keep_mk, keepL, Value.oneCell', cond_true, Nat.reduceEqDiff, ↓reduceIte, reduceCtorEq, Nat.zero_add, Bool.true_and, true_and, initF, initP, getT_nil, gStamp_zero, gOp_fits, gOp_zero, gPlace_zero, gUndo_zero, ptr]
  obtain ⟨hf1, hf2, hf3, hf4⟩ := hf
  refine call_ism _ [.s (.bool (mayA T op))] rfl rfl (fun w' vs hv _ _ hm => ?_) ?_
  · obtain ⟨vs, rfl, _, hv⟩ := argsV_g hv
    obtain ⟨vs, rfl, _, hv⟩ := argsV_g hv
    obtain rfl := argsV_nil hv
    exact May_spec hm hT op (by omega) hb
  simp (maxSteps := 2000000) only [retS, vc_skip, vc_ret, vc_seq, vc_rg, vc_ite, thenQ_n, thenQ_r, kKeep_eq, finQ_r, segs_nil, segs_n, ops_nil, ops_cons, vcOp, ev, evL, gvL, look, updL, put_mk, put_mk0, keep_mk, keepL, unV, Value.oneCell', cond_true, Nat.reduceEqDiff, ↓reduceIte, reduceCtorEq, Nat.zero_add, Bool.and_true, Bool.true_and, true_and, and_true, List.map_nil, br_t, GV.bldT, GV.bldC, getT_nil, setT_nil, gUndo_sz, gUndo_same]
  cases hmay : mayA T op with
  | false =>
    simp (maxSteps := 2000000) only [Bool.and_true, Bool.not_false, and_true, true_imp_iff, false_imp_iff, Bool.true_eq_false, Bool.false_eq_true]
    exact fin_m m rfl (fun _ _ h => h) ⟨rfl, hT⟩
  | true =>
    simp (maxSteps := 2000000) only [Bool.true_and, Bool.not_true, true_and, true_imp_iff, false_imp_iff, Bool.true_eq_false, Bool.false_eq_true]
    have tail : ∀ (m2 : PH) (L' : Lay) (T2 : PT) (U : Undo), L' .t = L .t → L' .mk = L .mk → TM m2 L' T2 → T2.ids = T.ids → U.ix = T.last + 1 → U.of.oneCell' = true → T.undo (ptr (L .mk)) op = U → ({ T2 with ids := T.ids ++ [T.last + 1] } : PT) = T.does op →
        ∀ σ : SS, Ge σ ⟨[(0, .g (.s (.pointer (some ⟨L' .t, 0, none⟩)))), (4, .ref 4 []), (6, .ref 6 [])], [(4, .box (gUndo zUndo)), (6, .box (gUndo U))], [], m2⟩ →
        vc ⟨Tryz.prog, 109, w, m⟩ c_tree_Tree_Do_R14 (finQ ⟨Tryz.prog, 109, w, m⟩ [.cell 4 13 true, .tmp 5] fun rs m' => ∃ L', L' .t = L .t ∧ L' .mk = L .mk ∧ rs = [gUndo (T.undo (.pointer (some ⟨L .mk, 0, none⟩)) op), .s (.bool true)] ∧ TM m' L' (T.does op)) σ := by
      intro m2 L' T2 U hL1 hL2 hT2 hids hix hof hU hdoes σ hσ
      obtain ⟨mi, mt, idsV, hm2, hd, hi, ht⟩ := hT2
      have hidsS : Seen ⟨Tryz.prog, 109, w, m⟩ [] m2 (L' .t) 3 (.s idsV) := by
        obtain ⟨o, h1, e', rfl⟩ := ht.has .t trivial trivial
        refine seen_cell (u := m2) kn_m (by rw [hm2]; exact (uni_r hd h1).1) rfl ?_
        rcases hi.2 with ⟨rfl, _⟩ | ⟨ad, c, rfl, _⟩ <;> rfl
      unfold c_tree_Tree_Do_R14
      rw [vc_seq]
      refine vc_gh_of_ge hσ ?_
      simp (maxSteps := 2000000) only [vc_rga, segs_nil, segs_n, ops_nil, ops_cons, ot_op, ot_or, vcOp, ev, evL, gvL, look, updL, put_mk, GV.getT, GV.sz, Nat.reduceEqDiff, ↓reduceIte, reduceCtorEq, List.nil_append, Nat.zero_add, Bool.and_true, Bool.true_and, Bool.not_false, true_and, and_true, Option.map_some, szAll, List.length_cons, List.length_nil, getT_nil, fits_s, gUndo_fld1, gUndo_get1]
      refine ⟨ld_of _ hidsS rfl ?_, ld_of _ hidsS rfl ?_, ld_of _ hidsS rfl ?_⟩
      all_goals
        simp (maxSteps := 2000000) only [segs_nil, segs_n, ops_nil, ops_cons, ot_op, vcOp, ev, evL, gvL, look, updL, put_mk, rowE, GV.getT, GV.sz, Nat.reduceEqDiff, ↓reduceIte, Nat.zero_add, Bool.and_true, Bool.true_and, Bool.not_false, true_and, and_true, Option.map_some, szAll, List.length_cons, List.length_nil, List.drop_zero, List.take_succ_cons, List.take_zero, fits_s, gUndo_get1]
        refine app_of rfl rfl mi mt (T2.ids.map gi) hi hm2 hd (by simp only [List.length_map, hids, List.length_cons, List.length_nil]; omega) fun v' u' hv' hs' hd' => ?_
        simp (maxSteps := 2000000) only [segs_nil, segs_n, ops_nil, ops_cons, ot_op, vcOp, ev, look, put_mk, Nat.reduceEqDiff, ↓reduceIte, Nat.zero_add]
        refine TreeM.setIds (ids := T.ids ++ [T.last + 1]) rfl hd' ht (by rw [← hids, ← hix, List.map_append]; exact hs') fun m3 hT3 => ?_
        simp (maxSteps := 2000000) only [vc_ret, vc_seq, vc_rg, thenQ_n, kKeep_eq, finQ_r, segs_nil, segs_n, ops_nil, ops_cons, ot_done, vcOp, ev, look, updL, put_mk, put_mk0, keep_mk, keepL, Value.oneCell', cond_true, Nat.reduceEqDiff, ↓reduceIte, reduceCtorEq, Bool.and_true, Bool.true_and, true_and, and_true, getT_nil, setT_nil, gUndo_sz, gUndo_fits, gUndo_same]
        exact fin_m (rs := [gUndo U, .s (.bool true)]) _ rfl (fun _ _ h => h) ⟨L', hL1, hL2, by rw [← hU]; rfl, by rw [← hdoes]; exact hT3⟩
    refine ld_of _ (hT.s_last kn_m) rfl ?_
    simp (maxSteps := 2000000) only [ops_cons, vcOp, ev, look, put_mk, binV, binC, Value.oneCell', cond_true, Nat.reduceEqDiff, ↓reduceIte, Nat.zero_add, Bool.true_and, true_and]
    rw [wrap64 (by omega) (by omega)]
    refine hT.setLast fun m1 hT1 => ?_
    simp (maxSteps := 2000000) only [vc_seq, vc_block, vc_rg, vc_rgq, vc_rga, vc_ite, thenQ_n, kKeep_eq, segs_nil, segs_n, ops_nil, ops_cons, qsegs_n, qops_cons, ot_op, ot_or, ot_held, oh_done, oh_op, oh_first, heldC_eq, heldF_eq, heldOk, heldK, ldH, heldM_self, List.contains_cons, List.contains_nil, Bool.or_false, vcqOp, vcOp, isRd, ev, evL, gvL, look, updL, put_mk, put_mk0, keep_mk, keepL, binV, binC, GV.getT, Value.oneCell', cond_true, Nat.reduceEqDiff, ↓reduceIte, reduceCtorEq, List.nil_append, Nat.zero_add, Nat.add_zero, Bool.and_true, Bool.true_and, Bool.not_false, BEq.rfl, true_and, and_true, List.map_cons, List.map_nil, Option.map_some, br_t, GV.bldT, GV.bldC, getT_nil, setT_nil, fits_s, gOp_fits, gOp_fld1, gOp_get1, gOp_fld2, gOp_get2, gUndo_get0]
    refine ⟨_, hT1.s_mark kn_m, rfl, _, hT1.s_last kn_m, rfl, ?_⟩
    simp (maxSteps := 2000000) only [GV.getT, GV.same, Bool.and_true, Bool.true_and, true_and, and_true, same_int, getT_nil, gOp_same, gUndo_sz, gUndo_same, gUndo_set0, gUndo_get1, gUndo_set1, gUndo_get2, gUndo_set2, ptr]
    refine ⟨⟨rfl, rfl, rfl⟩, fun k1 => ?_, fun k1 => ⟨fun k2 => ?_, fun k2 => ?_⟩⟩
    · rw [beq_iff_eq] at k1
      have hnone : T.get op.node = none := by
        rw [mayA, if_pos k1] at hmay
        simp only [Bool.and_eq_true, Bool.not_eq_true', PT.has] at hmay
        exact Option.isNone_iff_eq_none.1 (by rw [← Option.not_isSome, hmay.1.1.2]; rfl)
      repeat' (first
        | (refine ld_of _ (hT1.s_map kn_m) rfl ?_; simp (maxSteps := 2000000) only [segs_nil, segs_n, ops_nil, ops_cons, ot_op, ot_or, vcOp, ev, look, put_mk, GV.getT, Nat.reduceEqDiff, ↓reduceIte, Bool.true_and, Bool.not_false, true_and, fits_s, gOp_get2])
        | (refine ld_of _ (hT1.s_map (kn_uni hdb)) rfl ?_; simp (maxSteps := 2000000) only [segs_nil, segs_n, ops_nil, ops_cons, ot_op, vcOp, ev, look, put_mk, GV.getT, Nat.reduceEqDiff, ↓reduceIte, Bool.true_and, Bool.not_false, true_and, fits_s, gOp_get2])
        | (refine call_ownm rfl rfl (Q := fun rs m' => ∃ b a k, rs = [.s (ptr b)] ∧ BareM m' b a k) (fun w' vs hv hw _ _ => by obtain rfl := argsV_nil hv; exact bare_spec w') fun rs mb _ hq hdb => ?_; obtain ⟨b, a, k, rfl, hbm⟩ := hq; simp (maxSteps := 2000000) only [retS, segs_nil, segs_n, ops_nil, ops_cons, ot_op, ot_or, vcOp, ev, look, put_mk, GV.getT, Nat.reduceEqDiff, ↓reduceIte, Bool.true_and, Bool.not_false, true_and, fits_s, gOp_get2, ptr])
        | refine And.intro ?_ ?_)
      all_goals
        refine hT1.mupAdd hbm hdb hnone rfl fun m3 hT3 => ?_
        simp (maxSteps := 2000000) only [vc_rg, thenQ_n, kKeep_eq, segs_nil, segs_n, ops_nil, ops_cons, ot_done, vcOp, ev, evL, gvL, look, put_mk, put_mk0, keep_mk, keepL, GV.getT, GV.same, Nat.reduceEqDiff, ↓reduceIte, reduceCtorEq, List.nil_append, Bool.and_true, Bool.true_and, Bool.not_false, true_and, and_true, List.map_cons, List.map_nil, Option.map_some, GV.bldT, GV.bldC, same_int, getT_nil, fits_s, gOp_fld2, gOp_get2, gOp_fld3, gOp_get3, gOp_fld4, gOp_get4, gPlace_get0, gPlace_set0, gPlace_get1, gPlace_set1]
        refine ⟨⟨rfl, rfl⟩, ?_⟩
        refine call_all (Q := fun rs m' => rs = [] ∧ TM m' (L.add op.node b a k) ((({ T with last := T.last + 1 } : PT).add op.node).put op.node ⟨op.parent, op.name⟩)) rfl rfl (fun w' vs hv hw _ => ?_) fun rs m4 _ hq => ?_
        · obtain ⟨vs, rfl, _, hv⟩ := argsV_g hv
          obtain ⟨vs, rfl, _, hv⟩ := argsV_g hv
          obtain ⟨vs, rfl, _, hv⟩ := argsV_g hv
          obtain rfl := argsV_nil hv
          exact put_spec w' m3 (L.add op.node b a k) _ op.node ⟨op.parent, op.name⟩ PN.bare (by rw [PT.get_add (T := { T with last := T.last + 1 }) hnone, if_pos rfl]) hT3
        obtain ⟨rfl, hT4⟩ := hq
        simp (maxSteps := 2000000) only [retS, thenQ_n, blockQ_n, kKeep_eq, segs_nil, ops_nil, look, put_mk, keep_mk, keepL, Nat.reduceEqDiff, ↓reduceIte, reduceCtorEq]
        refine tail m4 (L.add op.node b a k) _ ⟨ptr (L .mk), T.last + 1, op, zPlace, ⟨#[]⟩⟩ rfl rfl hT4 ?_ rfl rfl ?_ ?_ _ (ge_of ?_ ?_ rfl rfl rfl)
        · rw [put_ids]; rfl
        · rw [PT.undo, hnone]
        · rw [PT.does, PT.acts, if_pos k1]
        · simp [frIn, look, Lay.add]
        · simp [pvIn, look]; rfl
    · rw [beq_eq_false_iff_ne] at k1
      rw [beq_iff_eq] at k2
      obtain ⟨x, hx⟩ : ∃ x, T.get op.node = some x := by
        rw [mayA, if_neg k1, if_pos k2] at hmay
        simp only [Bool.and_eq_true, PT.has] at hmay
        exact Option.isSome_iff_exists.1 hmay.1.1.1.1
      refine ld_of _ (hT1.s_map kn_m) rfl ?_
      simp (maxSteps := 2000000) only [segs_n, ops_cons, qsegs_nil, qops_nil, qops_cons, vcqOp, vcOp, isRd, ev, look, put_mk, GV.getT, Nat.reduceEqDiff, ↓reduceIte, reduceCtorEq, List.nil_append, Bool.true_and, Bool.not_false, true_and, getT_nil, fits_s, gOp_fld2, gOp_get2]
      refine hT1.lk kn_m _ ?_
      rw [show ({ T with last := T.last + 1 } : PT).get op.node = some x from hx]
      simp (maxSteps := 2000000) only [ops_cons, vcOp, ev, look, put_mk, ↓reduceIte, Nat.add_zero, nptr_some]
      refine ld_of _ (hT1.s_node kn_m hx).2.2.2.2 (gPlace_fits _) ?_
      simp (maxSteps := 2000000) only [vc_rg, thenQ_n, kKeep_eq, segs_nil, segs_n, ops_nil, ops_cons, vcOp, ev, evL, gvL, look, updL, put_mk, put_mk0, keep_mk, keepL, GV.getT, GV.same, Nat.reduceEqDiff, ↓reduceIte, reduceCtorEq, List.nil_append, Bool.and_true, Bool.true_and, Bool.not_false, true_and, and_true, List.map_cons, List.map_nil, Option.map_some, GV.bldT, GV.bldC, same_int, getT_nil, fits_s, gOp_fld2, gOp_get2, gOp_fld3, gOp_get3, gOp_fld4, gOp_get4, gPlace_sz, gPlace_same, gPlace_get0, gPlace_set0, gPlace_get1, gPlace_set1, gUndo_fld3, gUndo_get3, gUndo_set3]
      refine ⟨⟨rfl, rfl⟩, ?_⟩
      refine call_all (Q := fun rs m' => rs = [] ∧ TM m' L (({ T with last := T.last + 1 } : PT).put op.node ⟨op.parent, op.name⟩)) rfl rfl (fun w' vs hv hw _ => ?_) fun rs m4 _ hq => ?_
      · obtain ⟨vs, rfl, _, hv⟩ := argsV_g hv
        obtain ⟨vs, rfl, _, hv⟩ := argsV_g hv
        obtain ⟨vs, rfl, _, hv⟩ := argsV_g hv
        obtain rfl := argsV_nil hv
        exact put_spec w' m1 L _ op.node ⟨op.parent, op.name⟩ x hx hT1
      obtain ⟨rfl, hT4⟩ := hq
      simp (maxSteps := 2000000) only [retS, thenQ_n, blockQ_n, kKeep_eq, segs_nil, ops_nil, look, put_mk, keep_mk, keepL, Nat.reduceEqDiff, ↓reduceIte, reduceCtorEq]
      refine tail m4 L _ ⟨ptr (L .mk), T.last + 1, op, ⟨x.parent, x.name⟩, ⟨#[]⟩⟩ rfl rfl hT4 ?_ rfl rfl ?_ ?_ _ (ge_of ?_ ?_ rfl rfl rfl)
      · rw [put_ids]
      · rw [PT.undo, hx]; simp only; rw [if_neg k1, if_pos k2]
      · rw [PT.does, PT.acts, if_neg k1, if_pos k2]
      · simp [frIn, look]
      · simp [pvIn, look]; rfl
    · rw [beq_eq_false_iff_ne] at k1 k2
      obtain ⟨x, hx⟩ : ∃ x, T.get op.node = some x := by
        rw [mayA, if_neg k1, if_neg k2] at hmay
        split at hmay
        · simp only [Bool.and_eq_true, PT.has] at hmay
          exact Option.isSome_iff_exists.1 hmay.1
        · cases hmay
      refine ld_of _ (hT1.s_map kn_m) rfl ?_
      simp (maxSteps := 2000000) only [qops_cons, vcqOp, vcOp, isRd, ev, look, put_mk, GV.getT, Nat.reduceEqDiff, ↓reduceIte, reduceCtorEq, List.nil_append, Bool.true_and, Bool.not_false, true_and, getT_nil, fits_s, gOp_fld2, gOp_get2]
      refine hT1.lk kn_m _ ?_
      rw [show ({ T with last := T.last + 1 } : PT).get op.node = some x from hx]
      simp (maxSteps := 2000000) only [qops_cons, vcqOp, vcOp, isRd, ev, look, put_mk, ↓reduceIte, Nat.zero_add, Bool.true_and, true_and, nptr_some]
      refine ld_of _ (hT1.s_node kn_m hx).2.2.1 rfl ?_
      simp (maxSteps := 2000000) only [segs_n, ops_cons, qsegs_nil, qops_nil, qops_cons, vcqOp, vcOp, isRd, ev, look, put_mk, GV.getT, Nat.reduceEqDiff, ↓reduceIte, reduceCtorEq, List.nil_append, Bool.true_and, Bool.not_false, true_and, getT_nil, fits_s, gOp_fld5, gOp_get5]
      refine hT1.lkA kn_m hx ?_
      simp (maxSteps := 2000000) only [vc_rgq, thenQ_n, kKeep_eq, segs_nil, ops_nil, ops_cons, qsegs_n, qops_cons, vcqOp, vcOp, isRd, ev, look, updL, put_mk, put_mk0, keep_mk, keepL, GV.getT, GV.sz, GV.same, Nat.reduceEqDiff, ↓reduceIte, reduceCtorEq, List.nil_append, Nat.add_zero, Bool.and_true, Bool.true_and, true_and, and_true, getT_nil, gUndo_fld4, gUndo_get4, gUndo_set4]
      refine ld_of _ (hT1.s_map kn_m) rfl ?_
      simp (maxSteps := 2000000) only [qops_cons, vcqOp, vcOp, isRd, ev, look, put_mk, GV.getT, Nat.reduceEqDiff, ↓reduceIte, reduceCtorEq, List.nil_append, Bool.true_and, Bool.not_false, true_and, getT_nil, fits_s, gOp_fld2, gOp_get2]
      refine hT1.lk kn_m _ ?_
      rw [show ({ T with last := T.last + 1 } : PT).get op.node = some x from hx]
      simp (maxSteps := 2000000) only [segs_n, ops_cons, qsegs_nil, qops_nil, qops_cons, vcqOp, vcOp, isRd, ev, look, put_mk, GV.getT, Nat.reduceEqDiff, ↓reduceIte, reduceCtorEq, List.nil_append, Bool.true_and, Bool.not_false, true_and, getT_nil, fits_s, gOp_fld5, gOp_get5, gOp_fld6, gOp_get6, nptr_some]
      refine call_all (Q := fun rs m' => rs = [] ∧ TM m' L (({ T with last := T.last + 1 } : PT).attr op.node op.key op.value)) rfl rfl (fun w' vs hv hw _ => ?_) fun rs m4 _ hq => ?_
      · obtain ⟨vs, rfl, _, hv⟩ := argsV_g hv
        obtain ⟨vs, rfl, _, hv⟩ := argsV_g hv
        obtain ⟨vs, rfl, _, hv⟩ := argsV_g hv
        obtain rfl := argsV_nil hv
        exact attr_spec w' m1 L _ op.node op.key op.value x hx hT1
      obtain ⟨rfl, hT4⟩ := hq
      simp (maxSteps := 2000000) only [retS, thenQ_n, blockQ_n, kKeep_eq, segs_nil, ops_nil, look, put_mk, keep_mk, keepL, Nat.reduceEqDiff, ↓reduceIte, reduceCtorEq]
      refine tail m4 L _ ⟨ptr (L .mk), T.last + 1, op, zPlace, (getS x.attrs op.key).getD ⟨#[]⟩⟩ rfl rfl hT4 rfl rfl rfl ?_ ?_ _ (ge_of ?_ ?_ rfl rfl rfl)
      · rw [PT.undo, hx]; simp only; rw [if_neg k1, if_neg k2]
      · rw [PT.does, PT.acts, if_neg k1, if_neg k2]
      · simp [frIn, look]
      · simp [pvIn, look]; rfl
end Go.Proofs.YtmjiojflncffeaaGreat.Vc

/- Taken back. -/
set_option linter.unusedVariables false
set_option linter.unusedSimpArgs false
set_option maxRecDepth 100000
namespace Go.Proofs.YtmjiojflncffeaaGreat.Vc
open Go Go.Proofs

/-- A struct whose first field is a pointer that is not nil is not one whose first field is nil. -/
theorem eqG_first {P : Program} {t : TypeId} {fs : Array Field} {f0 : Field} {rest : List Field} {tx ty : GV} {e : TypeId} {i : TypeInfo} {a : Addr} (hu : P.underlying t = some (.struct fs)) (hfs : fs.toList = f0 :: rest) (hn : f0.name ≠ "_") (ho : f0.offset = 0)
    (h0 : P.underlying f0.type = some (.pointer e)) (hi : P.info? f0.type = some i) (hsz : i.size = 1) (hst : P.stoodInHeld t = false) (hg : P.eqGuardType P.depth t = false) (okx : (GV.c (.s (.pointer (some a))) tx).ok) (oky : (GV.c (.s (.pointer none)) ty).ok) :
    EqG P t (.c (.s (.pointer (some a))) tx) (.c (.s (.pointer none)) ty) false := by
  have hfs' : P.fieldsOf t = fs := by simp [Program.fieldsOf, hu]
  have h : ∀ w, (Op.equalIn 10000 t (GV.c (.s (.pointer (some a))) tx).val (GV.c (.s (.pointer none)) ty).val).run P w = .ok false w := fun w => by
    show (Op.equalIn (9999 + 1) t _ _).run P w = _
    rw [val_agg (fun v => by simp) , val_agg (fun v => by simp), run_equalIn_struct w 9999 t _ _ (by rw [hfs']; exact hu) hst, hfs', hfs]
    have p1 := run_part (P := P) h0 hi (p := [0]) (y := .s (.pointer (some a))) okx rfl (by rw [hsz]; rfl) w
    have p2 := run_part (P := P) h0 hi (p := [0]) (y := .s (.pointer none)) oky rfl (by rw [hsz]; rfl) w
    have o1 : (GV.c (.s (.pointer (some a))) tx).offs [0] = 0 := rfl
    have o2 : (GV.c (.s (.pointer none)) ty).offs [0] = 0 := rfl
    rw [o1, ← ho] at p1; rw [o2, ← ho] at p2
    have p3 := run_eqIn_ptr (P := P) 9998 h0 a w
    simp only [Op.eqFields, hn, ne_eq, not_false_eq_true, if_true, Sem.run_bind, p1, p2, Result.andThen_ok, GV.val]
    rw [p3]
    rfl
  intro b c w
  have hw := h w
  rw [val_agg (fun v => by simp) , val_agg (fun v => by simp)] at hw ⊢
  constructor
  · rw [Sem.run_bind, run_eqGuard_agg w _ _ _ _ _ _ hg, Result.andThen_ok, run_eql_struct w, hw]; rfl
  · rw [Sem.run_bind, run_eqGuard_agg w _ _ _ _ _ _ hg, Result.andThen_ok, run_neq_struct w, hw]; rfl

theorem eqG_same {P : Program} {t e : TypeId} {i : TypeInfo} (ht : P.underlying t = some (.pointer e)) (hi : P.info? e = some i) (hz : i.size ≠ 0) (a : Addr) : EqG P t (.s (.pointer (some a))) (.s (.pointer (some a))) true := by
  have h1 : ∀ w, (sameAddr a a).run P w = .ok true w := fun w => by
    unfold sameAddr
    simp [Sem.run_bind]
  have h0 : ∀ d w, (Op.equalIn (d + 1) t (.pointer (some a)) (.pointer (some a))).run P w = .ok true w := fun d w => by
    unfold Op.equalIn
    simp only [Sem.run_bind, run_underlying' ht, Result.andThen_ok, run_sizeOf' hi, ne_eq, hz, not_false_eq_true, if_true, h1]
  have h : ∀ w, (Op.equal t (.pointer (some a)) (.pointer (some a))).run P w = .ok true w := fun w => h0 9999 w
  intro x y w
  exact ⟨by simp [eqGuard, binOp, Sem.run_bind, GV.val, h], by simp [eqGuard, binOp, Sem.run_bind, GV.val, h]⟩

def PT.undone (T : PT) (u : Undo) : PT :=
  let T1 : PT := { T with ids := T.ids.dropLast }
  if u.op.kind = 1 then (T1.unkid u.op.parent u.op.node).del u.op.node
  else if u.op.kind = 2 then T1.put u.op.node u.was
  else T1.attr u.op.node u.op.key u.attr

theorem SlO.take {u : PH} {ad : Option Addr} {n c z : Nat} {e : TypeId} {xs : List GV} (h : SlO u (.slice ad n c) e z xs) (hn : n = xs.length) {k : Nat} (hk : k ≤ n) {ad' : Option Addr} (ha : ad' = ad) : SlO u (.slice ad' k c) e z (xs.take k) := by
  subst ha
  obtain ⟨hels, ⟨h1, rfl⟩ | ⟨a, c', h1, h2, h3⟩⟩ := h
  · simp only [Value.slice.injEq] at h1
    obtain ⟨rfl, rfl, rfl⟩ := h1
    obtain rfl : k = 0 := by omega
    exact ⟨fun x hx => by simp at hx, .inl ⟨rfl, by simp⟩⟩
  · simp only [Value.slice.injEq] at h1
    obtain ⟨rfl, _, rfl⟩ := h1
    refine ⟨fun x hx => hels x (List.mem_of_mem_take hx), .inr ⟨a, c, by rw [List.length_take, Nat.min_eq_left (by omega)], by rw [List.length_take]; omega, fun hc => ?_⟩⟩
    obtain ⟨cs, g1, g2, g3, g4⟩ := h3 hc
    exact ⟨cs, g1, g2, g3, fun j v hj => g4 j v (flats_take hels k hj)⟩

theorem Back_spec (w : World) (m : PH) (L : Lay) (T : PT) (u : Undo) (hof : u.of = .pointer (some ⟨L .mk, 0, none⟩)) (hT : TM m L T) (hil : T.ids.length < 1099511627776)
    (hsafe : T.ids.getLast? = some u.ix → (u.op.kind = 1 → ∃ x, T.get u.op.parent = some x) ∧ (u.op.kind ≠ 1 → ∃ x, T.get u.op.node = some x)) :
    Spec Tryz.prog f_tree_Tree_Back [ptr (L .t), (gUndo u).val] m w fun rs m' =>
      (T.ids.getLast? = some u.ix → rs = [.s (.int .i64 0)] ∧ TM m' L (T.undone u)) ∧ (T.ids.getLast? ≠ some u.ix → rs = [.s (.int .i64 120)] ∧ TM m' L T) := by
  have hok : (gUndo u).ok := gUndo_ok u (by rw [hof]; rfl)
  refine spec_of k_tree_Tree_Back [.g (.s (ptr (L .t))), .g (gUndo u)] (by simp) (by simp [AV.ok, GV.ok, Value.oneCell', ptr, hok]) ?_
  simp (maxSteps := 2000000) only [c_tree_Tree_Back, vc_seq, vc_rg, thenQ_n, kKeep_eq, segs_nil, segs_n, ops_nil, ops_cons, vcOp, ev, look, updL, put_mk, keep_mk, keepL, Value.oneCell', cond_true, Nat.reduceEqDiff, ↓reduceIte, reduceCtorEq, Nat.zero_add, Bool.true_and, true_and, initF, initP, ne_eq, gStamp_zero, gOp_zero, gPlace_zero, gUndo_zero, ptr]
  refine call_ism _ [.s (.bool false)] rfl rfl (fun w' vs hv _ _ hm => ?_) ?_
  · obtain ⟨vs, rfl, _, hv⟩ := argsV_g hv
    obtain rfl := argsV_nil hv
    exact none_spec hm hT
  simp (maxSteps := 2000000) only [retS, vc_skip, vc_seq, vc_rg, vc_ite, thenQ_n, kKeep_eq, segs_nil, segs_n, ops_nil, ops_cons, vcOp, ev, evL, gvL, look, put_mk, keep_mk, keepL, Nat.reduceEqDiff, ↓reduceIte, reduceCtorEq, Bool.true_and, true_and, List.map_nil, ↓br_ft, GV.bldT, GV.bldC, getT_nil, gUndo_fits]
  have hne : EqG Tryz.prog 71 (gUndo u) (gUndo zUndo) false := by
    obtain ⟨of, ix, op, was, attr⟩ := u
    subst hof
    exact eqG_first (fs := Tryz.prog.fieldsOf 71) (f0 := (Tryz.prog.fieldsOf 71)[0]!) (rest := (Tryz.prog.fieldsOf 71).toList.tail) (i := (Tryz.prog.info? 67).get!) (e := 139) (by kernel_rfl) (by kernel_rfl) (by decide +kernel) (by kernel_rfl) (by kernel_rfl) (by kernel_rfl) (by kernel_rfl) (by kernel_rfl) (by kernel_rfl) hok (gUndo_ok zUndo rfl)
  refine eq_of hne ?_
  simp (maxSteps := 2000000) only [vc_skip, vc_seq, vc_rg, vc_ite, thenQ_n, kKeep_eq, segs_nil, segs_n, ops_nil, ops_cons, vcOp, ev, look, put_mk, keep_mk, keepL, Nat.reduceEqDiff, ↓reduceIte, reduceCtorEq, Nat.zero_add, ↓br_ft, Bool.bne_false]
  obtain ⟨mi, mt, idsV, hm2, hd, hi, ht⟩ := id hT
  have hidsS : ∀ {ph : List PH}, Seen ⟨Tryz.prog, 98, w, m⟩ ph m (L .t) 3 (.s idsV) := by
    intro ph
    obtain ⟨o, h1, e', rfl⟩ := ht.has .t trivial trivial
    refine seen_cell (u := m) kn_m (by rw [hm2]; exact (uni_r hd h1).1) rfl ?_
    rcases hi.2 with ⟨rfl, _⟩ | ⟨ad, c, rfl, _⟩ <;> rfl
  refine ld_of _ hidsS rfl ?_
  have hshape : ∃ a c, idsV = .slice a T.ids.length c ∧ ∀ d, d < T.ids.length → ∃ b o, a = some ⟨b, o, none⟩ ∧ Seen ⟨Tryz.prog, 98, w, m⟩ [] m b (o + d * 1) (gi (T.ids.getD d 0)) := by
    have hkn : KN (⟨Tryz.prog, 98, w, m⟩ : Ctx).u0 [m] mi := fun b o h => .inr ⟨m, by simp, by rw [hm2]; exact sub_uni_l mi mt b o h⟩
    rcases hi.toR.shape with ⟨h3, a, c, h4⟩ | ⟨h3, b, o, c, h4, h5, h6⟩
    · have : T.ids = [] := by simpa using h3
      exact ⟨a, c, by rw [h4, this]; rfl, fun d hd => by rw [this] at hd; simp at hd⟩
    · refine ⟨_, c, by simpa using h4, fun d hd => ⟨b, o, rfl, h6 hkn d _ ?_⟩⟩
      rw [List.getElem?_map, List.getD_eq_getElem?_getD, List.getElem?_eq_getElem hd]; rfl
  obtain ⟨a, c, rfl, hs⟩ := hshape
  simp (maxSteps := 2000000) only [vc_seq, vc_rgq, thenQ_n, kKeep_eq, segs_nil, ops_nil, ops_cons, qsegs_n, qops_cons, vcqOp, vcOp, isRd, ev, look, put_mk, keep_mk, keepL, binV, binC, GV.getT, Value.oneCell', cond_true, Nat.reduceEqDiff, ↓reduceIte, reduceCtorEq, List.nil_append, Nat.zero_add, Bool.true_and, Bool.not_false, true_and, getT_nil, fits_s, gUndo_fld0, gUndo_get0]
  rw [wrap64 (by omega) (by omega)]
  refine ld_of _ (hT.s_mark kn_m) rfl ?_
  simp (maxSteps := 2000000) only [qops_cons, vcqOp, vcOp, isRd, ev, look, put_mk, Nat.reduceEqDiff, ↓reduceIte, Bool.true_and, true_and, ptr]
  rw [hof]
  refine eq_of (eqG_same (i := (Tryz.prog.info? 139).get!) Tryz.underlying67 (by kernel_rfl) (by decide +kernel) _) ?_
  simp (maxSteps := 2000000) only [vc_ret, vc_seq, vc_rg, vc_ite, thenQ_n, thenQ_r, kKeep_eq, finQ_r, segs_nil, segs_n, segs_g, ops_nil, ops_cons, qsegs_nil, qsegs_n, qsegs_g, qops_nil, qops_cons, vcqOp, vcOp, isRd, RO.isGh, skip_mk, skipL, ev, look, put_mk, keep_mk, keepL, binV, binC, Value.oneCell', cond_true, cond_false, Nat.reduceEqDiff, ↓reduceIte, reduceCtorEq, Nat.zero_add, Bool.true_and, Bool.not_true, Bool.not_false, true_and, decide_eq_true_eq, decide_eq_false_iff_not, ↓br_tt, ↓br_ff, ↓br_tf, ↓br_ft, br_f, Bool.bne_true]
  have hlast : ∀ n, T.ids.length = n + 1 → T.ids.getLast? = some (T.ids.getD n 0) := fun n hn => by
    rw [List.getLast?_eq_getElem?, hn, Nat.add_sub_cancel, List.getD_eq_getElem?_getD, List.getElem?_eq_getElem (by omega)]; rfl
  refine ⟨fun hge => ?_, fun hlt => ?_⟩
  · obtain ⟨n, hn⟩ : ∃ n, T.ids.length = n + 1 := ⟨T.ids.length - 1, by omega⟩
    refine ld_of _ hidsS rfl ?_
    obtain ⟨b, o, rfl, hsn⟩ := hs n (by omega)
    simp (maxSteps := 2000000) only [qops_cons, vcqOp, vcOp, isRd, ev, look, put_mk, Nat.reduceEqDiff, ↓reduceIte, reduceCtorEq, Bool.true_and, true_and]
    have en : ((T.ids.length : Int) - 1).toNat = n := by omega
    rw [en]
    refine ⟨⟨by omega, by omega⟩, ld_of _ hsn rfl ?_⟩
    simp (maxSteps := 2000000) only [gi, bne_iff_ne, bne_eq_false_iff_eq, vc_skip, vc_ret, vc_seq, vc_rg, vc_ite, thenQ_n, thenQ_r, kKeep_eq, finQ_r, segs_nil, segs_n, segs_g, ops_nil, ops_cons, qsegs_nil, qops_nil, qops_cons, vcqOp, vcOp, isRd, ev, look, put_mk, keep_mk, keepL, binV, binC, GV.getT, Value.oneCell', cond_true, Nat.reduceEqDiff, ↓reduceIte, reduceCtorEq, List.nil_append, Nat.zero_add, Bool.true_and, Bool.not_false, true_and, ne_eq, ↓br_ff, ↓br_ft, br_t, getT_nil, fits_s, gUndo_fld1, gUndo_get1]
    rw [hlast n hn]
    refine ⟨fun hne' => ?_, fun heq => ?_⟩
    · exact fin_m m rfl (fun _ _ h => h) ⟨fun h => absurd (by simpa using h) hne', fun _ => ⟨rfl, hT⟩⟩
    rw [heq]
    obtain ⟨hs1, hs2⟩ := hsafe (by rw [hlast n hn, heq])
    refine ld_of _ hidsS rfl ?_
    simp (maxSteps := 2000000) only [ite_self, Nat.sub_zero, ops_cons, vcOp, ev, look, put_mk, bndN, Nat.reduceEqDiff, Nat.reduceMul, ↓reduceIte, reduceCtorEq, Nat.zero_add, Nat.add_zero, Bool.and_true, and_true, true_imp_iff, false_imp_iff, Int.toNat_natCast, not_true_eq_false]
    rw [en]
    have hcap : T.ids.length ≤ c := by
      rcases hi.2 with ⟨h1, h2⟩ | ⟨ad, c', h1, h2, _⟩
      · cases h1
      · simp only [Value.slice.injEq] at h1
        rw [← h1.2.2, List.length_map] at h2; exact h2
    have hdrop : T.ids.dropLast = T.ids.take n := by rw [List.dropLast_eq_take, hn, Nat.add_sub_cancel]
    have hi2 : SlO mi (.slice (some ⟨b, o, none⟩) n c) 3 1 (T.ids.dropLast.map gi) := by
      rw [hdrop, List.map_take]
      exact hi.take (by simp) (by omega) rfl
    refine ⟨⟨hcap, by omega, by omega, by omega⟩, TreeM.setIds (ids := T.ids.dropLast) hm2 hd ht hi2 fun m2 hT2 => ?_⟩
    simp (maxSteps := 2000000) only [vc_seq, vc_block, vc_rg, vc_rgq, vc_ite, thenQ_n, kKeep_eq, segs_nil, segs_n, ops_nil, ops_cons, qsegs_n, qops_cons, vcqOp, vcOp, isRd, ev, look, put_mk, put_mk0, keep_mk, keepL, binV, binC, GV.getT, Value.oneCell', cond_true, Nat.reduceEqDiff, ↓reduceIte, reduceCtorEq, List.nil_append, List.cons_append, Nat.add_zero, Bool.true_and, Bool.not_false, true_and, br_t, getT_nil, fits_s, gOp_fld1, gOp_get1, gOp_fld2, gOp_get2, gPlace_fits, gUndo_fld2, gUndo_get2, gUndo_fld3, gUndo_get3]
    refine ⟨fun k1 => ?_, fun k1 => ⟨fun k2 => ?_, fun k2 => ?_⟩⟩
    · rw [beq_iff_eq] at k1
      obtain ⟨x, hx⟩ := hs1 k1
      refine ld_of _ (hT2.s_map kn_m) rfl ?_
      simp (maxSteps := 2000000) only [qops_cons, vcqOp, vcOp, isRd, ev, look, put_mk, GV.getT, Nat.reduceEqDiff, ↓reduceIte, reduceCtorEq, List.nil_append, List.cons_append, Bool.true_and, Bool.not_false, true_and, getT_nil, fits_s, gOp_fld3, gOp_get3, gUndo_fld2, gUndo_get2]
      refine hT2.lk kn_m _ ?_
      rw [show ({ T with ids := T.ids.dropLast } : PT).get u.op.parent = some x from hx]
      simp (maxSteps := 2000000) only [qops_cons, vcqOp, vcOp, isRd, ev, look, put_mk, ↓reduceIte, Nat.zero_add, Bool.true_and, true_and, nptr_some]
      refine ld_of _ (hT2.s_node kn_m hx).2.2.2.1 rfl ?_
      simp (maxSteps := 2000000) only [segs_n, ops_cons, qsegs_nil, qops_nil, qops_cons, vcqOp, vcOp, isRd, ev, look, put_mk, GV.getT, Nat.reduceEqDiff, ↓reduceIte, reduceCtorEq, List.nil_append, List.cons_append, Bool.true_and, Bool.not_false, true_and, getT_nil, fits_s, gOp_fld2, gOp_get2, gUndo_fld2, gUndo_get2]
      refine TreeM.unkid (T := { T with ids := T.ids.dropLast }) hT2 hx fun m3 hT3 => ?_
      simp (maxSteps := 2000000) only [vc_rgq, thenQ_n, kKeep_eq, segs_nil, ops_nil, qsegs_n, qops_cons, vcqOp, vcOp, isRd, ev, look, put_mk, put_mk0, keep_mk, keepL, Nat.reduceEqDiff, ↓reduceIte, reduceCtorEq, Nat.add_zero, Bool.true_and, true_and]
      refine ld_of _ (hT3.s_map kn_m) rfl ?_
      simp (maxSteps := 2000000) only [segs_n, ops_cons, qsegs_nil, qops_nil, qops_cons, vcqOp, vcOp, isRd, ev, look, put_mk, GV.getT, Nat.reduceEqDiff, ↓reduceIte, reduceCtorEq, List.nil_append, List.cons_append, Bool.true_and, Bool.not_false, true_and, getT_nil, fits_s, gOp_fld2, gOp_get2, gUndo_fld2, gUndo_get2]
      refine hT3.delNode fun m4 hT4 => ?_
      simp (maxSteps := 2000000) only [vc_ret, vc_seq, vc_rg, thenQ_n, blockQ_n, kKeep_eq, finQ_r, segs_nil, segs_n, ops_nil, ops_cons, vcOp, ev, look, put_mk, put_mk0, keep_mk, keepL, Value.oneCell', cond_true, ↓reduceIte]
      refine fin_m _ rfl (fun _ _ h => h) ⟨rfl, ?_⟩
      rw [PT.undone]; simp only; rw [if_pos k1]; exact hT4
    · rw [beq_eq_false_iff_ne] at k1
      rw [beq_iff_eq] at k2
      obtain ⟨x, hx⟩ := hs2 k1
      refine call_all (Q := fun rs m' => rs = [] ∧ TM m' L (({ T with ids := T.ids.dropLast } : PT).put u.op.node u.was)) rfl rfl (fun w' vs hv hw _ => ?_) fun rs m4 _ hq => ?_
      · obtain ⟨vs, rfl, _, hv⟩ := argsV_g hv
        obtain ⟨vs, rfl, _, hv⟩ := argsV_g hv
        obtain ⟨vs, rfl, _, hv⟩ := argsV_g hv
        obtain rfl := argsV_nil hv
        exact put_spec w' m2 L _ u.op.node u.was x hx hT2
      obtain ⟨rfl, hT4⟩ := hq
      simp (maxSteps := 2000000) only [retS, vc_ret, vc_seq, vc_rg, thenQ_n, blockQ_n, kKeep_eq, finQ_r, segs_nil, segs_n, ops_nil, ops_cons, vcOp, ev, look, put_mk, keep_mk, keepL, Value.oneCell', cond_true, ↓reduceIte]
      refine fin_m _ rfl (fun _ _ h => h) ⟨rfl, ?_⟩
      rw [PT.undone]; simp only; rw [if_neg k1, if_pos k2]; exact hT4
    · rw [beq_eq_false_iff_ne] at k1 k2
      obtain ⟨x, hx⟩ := hs2 k1
      refine ld_of _ (hT2.s_map kn_m) rfl ?_
      simp (maxSteps := 2000000) only [qops_cons, vcqOp, vcOp, isRd, ev, look, put_mk, GV.getT, Nat.reduceEqDiff, ↓reduceIte, reduceCtorEq, List.nil_append, List.cons_append, Bool.true_and, Bool.not_false, true_and, getT_nil, fits_s, gOp_fld2, gOp_get2, gUndo_fld2, gUndo_get2]
      refine hT2.lk kn_m _ ?_
      rw [show ({ T with ids := T.ids.dropLast } : PT).get u.op.node = some x from hx]
      simp (maxSteps := 2000000) only [segs_n, ops_cons, qsegs_nil, qops_nil, qops_cons, vcqOp, vcOp, isRd, ev, look, put_mk, GV.getT, Nat.reduceEqDiff, ↓reduceIte, reduceCtorEq, List.nil_append, List.cons_append, Bool.true_and, Bool.not_false, true_and, getT_nil, fits_s, gOp_fld5, gOp_get5, gUndo_fld2, gUndo_get2, gUndo_fld4, gUndo_get4, nptr_some]
      refine call_all (Q := fun rs m' => rs = [] ∧ TM m' L (({ T with ids := T.ids.dropLast } : PT).attr u.op.node u.op.key u.attr)) rfl rfl (fun w' vs hv hw _ => ?_) fun rs m4 _ hq => ?_
      · obtain ⟨vs, rfl, _, hv⟩ := argsV_g hv
        obtain ⟨vs, rfl, _, hv⟩ := argsV_g hv
        obtain ⟨vs, rfl, _, hv⟩ := argsV_g hv
        obtain rfl := argsV_nil hv
        exact attr_spec w' m2 L _ u.op.node u.op.key u.attr x hx hT2
      obtain ⟨rfl, hT4⟩ := hq
      simp (maxSteps := 2000000) only [retS, vc_ret, vc_seq, vc_rg, thenQ_n, blockQ_n, kKeep_eq, finQ_r, segs_nil, segs_n, ops_nil, ops_cons, vcOp, ev, look, put_mk, keep_mk, keepL, Value.oneCell', cond_true, ↓reduceIte]
      refine fin_m _ rfl (fun _ _ h => h) ⟨rfl, ?_⟩
      rw [PT.undone]; simp only; rw [if_neg k1, if_neg k2]; exact hT4
  · have : T.ids = [] := List.length_eq_zero_iff.1 (by omega)
    refine fin_m m rfl (fun _ _ h => h) ⟨fun h => ?_, fun _ => ⟨rfl, hT⟩⟩
    rw [this] at h; cases h
end Go.Proofs.YtmjiojflncffeaaGreat.Vc

/-
  DERIVED: THE SHELF's CONTRACTS AT THIS DUMP, IN PLAIN WORDS (tools/lay-plain.mjs out of 'TryzShelf13.lean', which tools/lay-shelf.mjs wrote): THE SAME DECLARATIONS UNDER THE SAME NAMES: 'import', 'namespace', 'open', 'def', 'theorem' AND NOTHING ELSE: no command of the shelf's: FOR A HAND-IN. Each laying: the table of numbers ('.._ren') and one theorem, a field a fact of the dump's own or the kernel's comparison; each contract: ONE APPLICATION.
-/
namespace Go.Proofs
open Go.Shelf
def Tryz.keysI_ren : Go.Shelf.Ren := ⟨fun | 7 => 58 | 10 => 94 | n => n, fun | 23 => 114 | 26 => 2 | 3 => 115 | 28 => 112 | 0 => 0 | 27 => 111 | 33 => 106 | 4 => 4 | n => n, fun | n => n⟩
theorem Tryz.keysI : Go.Proofs.SlLaysZI.n7 Tryz.prog Tryz.keysI_ren := {
  mixed := by kernel_rfl
  f7 := ⟨Tryz.f58.name, by decide, Tryz.func58.trans (congrArg some (by kernel_rfl))⟩
  f10 := ⟨Tryz.f94.name, by decide, Tryz.func94.trans (congrArg some (by kernel_rfl))⟩
  t0 := Tryz.underlying0
  a0 := Tryz.isAgg0
  z0 := Tryz.sizeOf0
  v0 := Tryz.zeroValue0
  t4 := Tryz.underlying4
  a4 := Tryz.isAgg4
  z4 := Tryz.sizeOf4
  v4 := Tryz.zeroValue4
  t23 := Tryz.underlying114
  a23 := Tryz.isAgg114
  z23 := Tryz.sizeOf114
  v23 := Tryz.zeroValue114
  t26 := Tryz.underlying2
  a26 := Tryz.isAgg2
  z26 := Tryz.sizeOf2
  v26 := Tryz.zeroValue2
  t27 := Tryz.underlying111
  a27 := Tryz.isAgg111
  z27 := Tryz.sizeOf111
  v27 := Tryz.zeroValue111
  t28 := Tryz.underlying112
  a28 := Tryz.isAgg112
  z28 := Tryz.sizeOf112
  v28 := Tryz.zeroValue112
  t33 := Tryz.underlying106
  a33 := Tryz.isAgg106
  z33 := Tryz.sizeOf106
  v33 := Tryz.zeroValue106 }
def Tryz.sortedI_ren : Go.Shelf.Ren := ⟨fun | 6 => 57 | 8 => 92 | 9 => 93 | 11 => 130 | 13 => 76 | 12 => 131 | 23 => 116 | 24 => 117 | 14 => 147 | 15 => 148 | 16 => 149 | 17 => 150 | 18 => 151 | 19 => 152 | 20 => 153 | 21 => 154 | 22 => 155 | 25 => 162 | 26 => 139 | 27 => 140 | 28 => 163 | 29 => 164 | 30 => 118 | 31 => 178 | n => n, fun | 26 => 2 | 28 => 112 | 24 => 109 | 0 => 0 | 3 => 3 | 37 => 142 | 48 => 178 | 50 => 180 | 4 => 4 | 40 => 172 | 39 => 171 | 45 => 94 | 5 => 5 | 9 => 9 | 51 => 191 | 55 => 195 | 57 => 207 | 58 => 208 | 33 => 106 | n => n, fun | n => n⟩
theorem Tryz.sortedI : Go.Proofs.SlLaysZI.n6 Tryz.prog Tryz.sortedI_ren := {
  mixed := by kernel_rfl
  f6 := ⟨Tryz.f57.name, by decide, Tryz.func57.trans (congrArg some (by kernel_rfl))⟩
  f8 := ⟨Tryz.f92.name, by decide, Tryz.func92.trans (congrArg some (by kernel_rfl))⟩
  f11 := ⟨Tryz.f130.name, by decide, Tryz.func130.trans (congrArg some (by kernel_rfl))⟩
  t0 := Tryz.underlying0
  a0 := Tryz.isAgg0
  z0 := Tryz.sizeOf0
  v0 := Tryz.zeroValue0
  t24 := Tryz.underlying109
  a24 := Tryz.isAgg109
  z24 := Tryz.sizeOf109
  v24 := Tryz.zeroValue109
  t26 := Tryz.underlying2
  a26 := Tryz.isAgg2
  z26 := Tryz.sizeOf2
  v26 := Tryz.zeroValue2
  t28 := Tryz.underlying112
  a28 := Tryz.isAgg112
  z28 := Tryz.sizeOf112
  v28 := Tryz.zeroValue112
  i26 := by kernel_rfl }
def Tryz.sortI_ren : Go.Shelf.Ren := ⟨fun | 5 => 93 | 8 => 76 | 7 => 131 | 19 => 116 | 20 => 117 | 10 => 147 | 11 => 148 | 12 => 149 | 13 => 150 | 14 => 151 | 15 => 152 | 16 => 153 | 17 => 154 | 18 => 155 | 30 => 162 | 31 => 139 | 32 => 140 | 33 => 163 | 34 => 164 | 35 => 118 | 40 => 178 | n => n, fun | 23 => 109 | 25 => 2 | 3 => 3 | 32 => 142 | 22 => 109 | 0 => 0 | 44 => 178 | 46 => 180 | 4 => 4 | 36 => 172 | 35 => 171 | 41 => 94 | 5 => 5 | 9 => 9 | 53 => 191 | 57 => 195 | 63 => 207 | 64 => 208 | n => n, fun | n => n⟩
theorem Tryz.sortI : Go.Proofs.SlLaysM.n5 Tryz.prog Tryz.sortI_ren := {
  mixed := by kernel_rfl
  f5 := ⟨Tryz.f93.name, by decide, Tryz.func93.trans (congrArg some (by kernel_rfl))⟩
  f7 := ⟨Tryz.f131.name, by decide, Tryz.func131.trans (congrArg some (by kernel_rfl))⟩
  f8 := Tryz.func76.trans (congrArg some (by kernel_rfl))
  f10 := ⟨Tryz.f147.name, by decide, Tryz.func147.trans (congrArg some (by kernel_rfl))⟩
  f11 := ⟨Tryz.f148.name, by decide, Tryz.func148.trans (congrArg some (by kernel_rfl))⟩
  f12 := ⟨Tryz.f149.name, by decide, Tryz.func149.trans (congrArg some (by kernel_rfl))⟩
  f13 := ⟨Tryz.f150.name, by decide, Tryz.func150.trans (congrArg some (by kernel_rfl))⟩
  f14 := ⟨Tryz.f151.name, by decide, Tryz.func151.trans (congrArg some (by kernel_rfl))⟩
  f15 := ⟨Tryz.f152.name, by decide, Tryz.func152.trans (congrArg some (by kernel_rfl))⟩
  f16 := ⟨Tryz.f153.name, by decide, Tryz.func153.trans (congrArg some (by kernel_rfl))⟩
  f17 := ⟨Tryz.f154.name, by decide, Tryz.func154.trans (congrArg some (by kernel_rfl))⟩
  f18 := ⟨Tryz.f155.name, by decide, Tryz.func155.trans (congrArg some (by kernel_rfl))⟩
  f19 := Tryz.func116.trans (congrArg some (by kernel_rfl))
  f20 := Tryz.func117.trans (congrArg some (by kernel_rfl))
  f30 := ⟨Tryz.f162.name, by decide, Tryz.func162.trans (congrArg some (by kernel_rfl))⟩
  f31 := Tryz.func139.trans (congrArg some (by kernel_rfl))
  f32 := Tryz.func140.trans (congrArg some (by kernel_rfl))
  f33 := ⟨Tryz.f163.name, by decide, Tryz.func163.trans (congrArg some (by kernel_rfl))⟩
  f34 := ⟨Tryz.f164.name, by decide, Tryz.func164.trans (congrArg some (by kernel_rfl))⟩
  f35 := ⟨Tryz.f118.name, by decide, Tryz.func118.trans (congrArg some (by kernel_rfl))⟩
  f40 := ⟨Tryz.f178.name, by decide, Tryz.func178.trans (congrArg some (by kernel_rfl))⟩
  t0 := Tryz.underlying0
  a0 := Tryz.isAgg0
  z0 := Tryz.sizeOf0
  v0 := Tryz.zeroValue0
  t3 := Tryz.underlying3
  a3 := Tryz.isAgg3
  z3 := Tryz.sizeOf3
  v3 := Tryz.zeroValue3
  t4 := Tryz.underlying4
  a4 := Tryz.isAgg4
  z4 := Tryz.sizeOf4
  v4 := Tryz.zeroValue4
  t5 := Tryz.underlying5
  a5 := Tryz.isAgg5
  z5 := Tryz.sizeOf5
  v5 := Tryz.zeroValue5
  t9 := Tryz.underlying9
  a9 := Tryz.isAgg9
  z9 := Tryz.sizeOf9
  v9 := Tryz.zeroValue9
  t22 := Tryz.underlying109
  a22 := Tryz.isAgg109
  z22 := Tryz.sizeOf109
  v22 := Tryz.zeroValue109
  t23 := Tryz.underlying109
  a23 := Tryz.isAgg109
  z23 := Tryz.sizeOf109
  v23 := Tryz.zeroValue109
  t25 := Tryz.underlying2
  a25 := Tryz.isAgg2
  z25 := Tryz.sizeOf2
  v25 := Tryz.zeroValue2
  t32 := Tryz.underlying142
  a32 := Tryz.isAgg142
  z32 := Tryz.sizeOf142
  v32 := Tryz.zeroValue142
  t35 := Tryz.underlying171
  a35 := Tryz.isAgg171
  z35 := Tryz.sizeOf171
  v35 := Tryz.zeroValue171
  t36 := Tryz.underlying172
  a36 := Tryz.isAgg172
  z36 := Tryz.sizeOf172
  v36 := Tryz.zeroValue172
  t41 := Tryz.underlying94
  a41 := Tryz.isAgg94
  z41 := Tryz.sizeOf94
  v41 := Tryz.zeroValue94
  t44 := Tryz.underlying178
  a44 := Tryz.isAgg178
  z44 := Tryz.sizeOf178
  v44 := Tryz.zeroValue178
  t46 := Tryz.underlying180
  a46 := Tryz.isAgg180
  z46 := Tryz.sizeOf180
  v46 := Tryz.zeroValue180
  t53 := Tryz.underlying191
  a53 := Tryz.isAgg191
  z53 := Tryz.sizeOf191
  v53 := Tryz.zeroValue191
  t57 := Tryz.underlying195
  a57 := Tryz.isAgg195
  z57 := Tryz.sizeOf195
  v57 := Tryz.zeroValue195
  t63 := Tryz.underlying207
  a63 := Tryz.isAgg207
  z63 := Tryz.sizeOf207
  v63 := Tryz.zeroValue207
  t64 := Tryz.underlying208
  a64 := Tryz.isAgg208
  z64 := Tryz.sizeOf208
  v64 := Tryz.zeroValue208 }
def Tryz.keysT_ren : Go.Shelf.Ren := ⟨fun | 7 => 96 | 10 => 134 | n => n, fun | 23 => 129 | 26 => 9 | 3 => 9 | 28 => 158 | 0 => 0 | 27 => 157 | 33 => 151 | 4 => 4 | n => n, fun | n => n⟩
theorem Tryz.keysT : Go.Proofs.SlLaysZ.n7 Tryz.prog Tryz.keysT_ren := {
  mixed := by kernel_rfl
  f7 := ⟨Tryz.f96.name, by decide, Tryz.func96.trans (congrArg some (by kernel_rfl))⟩
  f10 := ⟨Tryz.f134.name, by decide, Tryz.func134.trans (congrArg some (by kernel_rfl))⟩
  t0 := Tryz.underlying0
  a0 := Tryz.isAgg0
  z0 := Tryz.sizeOf0
  v0 := Tryz.zeroValue0
  t4 := Tryz.underlying4
  a4 := Tryz.isAgg4
  z4 := Tryz.sizeOf4
  v4 := Tryz.zeroValue4
  t23 := Tryz.underlying129
  a23 := Tryz.isAgg129
  z23 := Tryz.sizeOf129
  v23 := Tryz.zeroValue129
  t26 := Tryz.underlying9
  a26 := Tryz.isAgg9
  z26 := Tryz.sizeOf9
  v26 := Tryz.zeroValue9
  t27 := Tryz.underlying157
  a27 := Tryz.isAgg157
  z27 := Tryz.sizeOf157
  v27 := Tryz.zeroValue157
  t28 := Tryz.underlying158
  a28 := Tryz.isAgg158
  z28 := Tryz.sizeOf158
  v28 := Tryz.zeroValue158
  t33 := Tryz.underlying151
  a33 := Tryz.isAgg151
  z33 := Tryz.sizeOf151
  v33 := Tryz.zeroValue151 }
def Tryz.sortedT_ren : Go.Shelf.Ren := ⟨fun | 6 => 95 | 8 => 132 | 9 => 133 | 11 => 156 | 13 => 76 | 12 => 157 | 23 => 116 | 24 => 117 | 14 => 165 | 15 => 166 | 16 => 167 | 17 => 168 | 18 => 169 | 19 => 170 | 20 => 171 | 21 => 172 | 22 => 173 | 25 => 179 | 26 => 139 | 27 => 140 | 28 => 180 | 29 => 181 | 30 => 182 | 31 => 185 | n => n, fun | 26 => 9 | 28 => 158 | 24 => 155 | 0 => 0 | 3 => 3 | 37 => 142 | 48 => 178 | 50 => 180 | 4 => 4 | 40 => 172 | 39 => 171 | 45 => 94 | 5 => 5 | 9 => 9 | 51 => 191 | 55 => 195 | 57 => 207 | 58 => 208 | 33 => 151 | n => n, fun | n => n⟩
theorem Tryz.sortedT : Go.Proofs.SlLaysZ.n6 Tryz.prog Tryz.sortedT_ren := {
  mixed := by kernel_rfl
  f6 := ⟨Tryz.f95.name, by decide, Tryz.func95.trans (congrArg some (by kernel_rfl))⟩
  f8 := ⟨Tryz.f132.name, by decide, Tryz.func132.trans (congrArg some (by kernel_rfl))⟩
  f11 := ⟨Tryz.f156.name, by decide, Tryz.func156.trans (congrArg some (by kernel_rfl))⟩
  t0 := Tryz.underlying0
  a0 := Tryz.isAgg0
  z0 := Tryz.sizeOf0
  v0 := Tryz.zeroValue0
  t24 := Tryz.underlying155
  a24 := Tryz.isAgg155
  z24 := Tryz.sizeOf155
  v24 := Tryz.zeroValue155
  t26 := Tryz.underlying9
  a26 := Tryz.isAgg9
  z26 := Tryz.sizeOf9
  v26 := Tryz.zeroValue9
  t28 := Tryz.underlying158
  a28 := Tryz.isAgg158
  z28 := Tryz.sizeOf158
  v28 := Tryz.zeroValue158
  i26 := by kernel_rfl }
def Tryz.sortT_ren : Go.Shelf.Ren := ⟨fun | 6 => 133 | 8 => 76 | 9 => 157 | 19 => 116 | 20 => 117 | 21 => 165 | 22 => 166 | 23 => 167 | 24 => 168 | 25 => 169 | 26 => 170 | 27 => 171 | 28 => 172 | 29 => 173 | 36 => 179 | 31 => 139 | 32 => 140 | 37 => 180 | 38 => 181 | 39 => 182 | 41 => 185 | n => n, fun | 27 => 155 | 29 => 9 | 3 => 3 | 32 => 142 | 26 => 155 | 0 => 0 | 44 => 178 | 46 => 180 | 4 => 4 | 36 => 172 | 35 => 171 | 41 => 94 | 5 => 5 | 9 => 9 | 53 => 191 | 57 => 195 | 63 => 207 | 64 => 208 | n => n, fun | n => n⟩
theorem Tryz.sortT : Go.Proofs.SlLaysM.n6 Tryz.prog Tryz.sortT_ren := {
  mixed := by kernel_rfl
  f6 := ⟨Tryz.f133.name, by decide, Tryz.func133.trans (congrArg some (by kernel_rfl))⟩
  f8 := Tryz.func76.trans (congrArg some (by kernel_rfl))
  f9 := ⟨Tryz.f157.name, by decide, Tryz.func157.trans (congrArg some (by kernel_rfl))⟩
  f19 := Tryz.func116.trans (congrArg some (by kernel_rfl))
  f20 := Tryz.func117.trans (congrArg some (by kernel_rfl))
  f21 := ⟨Tryz.f165.name, by decide, Tryz.func165.trans (congrArg some (by kernel_rfl))⟩
  f22 := ⟨Tryz.f166.name, by decide, Tryz.func166.trans (congrArg some (by kernel_rfl))⟩
  f23 := ⟨Tryz.f167.name, by decide, Tryz.func167.trans (congrArg some (by kernel_rfl))⟩
  f24 := ⟨Tryz.f168.name, by decide, Tryz.func168.trans (congrArg some (by kernel_rfl))⟩
  f25 := ⟨Tryz.f169.name, by decide, Tryz.func169.trans (congrArg some (by kernel_rfl))⟩
  f26 := ⟨Tryz.f170.name, by decide, Tryz.func170.trans (congrArg some (by kernel_rfl))⟩
  f27 := ⟨Tryz.f171.name, by decide, Tryz.func171.trans (congrArg some (by kernel_rfl))⟩
  f28 := ⟨Tryz.f172.name, by decide, Tryz.func172.trans (congrArg some (by kernel_rfl))⟩
  f29 := ⟨Tryz.f173.name, by decide, Tryz.func173.trans (congrArg some (by kernel_rfl))⟩
  f31 := Tryz.func139.trans (congrArg some (by kernel_rfl))
  f32 := Tryz.func140.trans (congrArg some (by kernel_rfl))
  f36 := ⟨Tryz.f179.name, by decide, Tryz.func179.trans (congrArg some (by kernel_rfl))⟩
  f37 := ⟨Tryz.f180.name, by decide, Tryz.func180.trans (congrArg some (by kernel_rfl))⟩
  f38 := ⟨Tryz.f181.name, by decide, Tryz.func181.trans (congrArg some (by kernel_rfl))⟩
  f39 := ⟨Tryz.f182.name, by decide, Tryz.func182.trans (congrArg some (by kernel_rfl))⟩
  f41 := ⟨Tryz.f185.name, by decide, Tryz.func185.trans (congrArg some (by kernel_rfl))⟩
  t0 := Tryz.underlying0
  a0 := Tryz.isAgg0
  z0 := Tryz.sizeOf0
  v0 := Tryz.zeroValue0
  t3 := Tryz.underlying3
  a3 := Tryz.isAgg3
  z3 := Tryz.sizeOf3
  v3 := Tryz.zeroValue3
  t4 := Tryz.underlying4
  a4 := Tryz.isAgg4
  z4 := Tryz.sizeOf4
  v4 := Tryz.zeroValue4
  t5 := Tryz.underlying5
  a5 := Tryz.isAgg5
  z5 := Tryz.sizeOf5
  v5 := Tryz.zeroValue5
  t9 := Tryz.underlying9
  a9 := Tryz.isAgg9
  z9 := Tryz.sizeOf9
  v9 := Tryz.zeroValue9
  t26 := Tryz.underlying155
  a26 := Tryz.isAgg155
  z26 := Tryz.sizeOf155
  v26 := Tryz.zeroValue155
  t27 := Tryz.underlying155
  a27 := Tryz.isAgg155
  z27 := Tryz.sizeOf155
  v27 := Tryz.zeroValue155
  t29 := Tryz.underlying9
  a29 := Tryz.isAgg9
  z29 := Tryz.sizeOf9
  v29 := Tryz.zeroValue9
  t32 := Tryz.underlying142
  a32 := Tryz.isAgg142
  z32 := Tryz.sizeOf142
  v32 := Tryz.zeroValue142
  t35 := Tryz.underlying171
  a35 := Tryz.isAgg171
  z35 := Tryz.sizeOf171
  v35 := Tryz.zeroValue171
  t36 := Tryz.underlying172
  a36 := Tryz.isAgg172
  z36 := Tryz.sizeOf172
  v36 := Tryz.zeroValue172
  t41 := Tryz.underlying94
  a41 := Tryz.isAgg94
  z41 := Tryz.sizeOf94
  v41 := Tryz.zeroValue94
  t44 := Tryz.underlying178
  a44 := Tryz.isAgg178
  z44 := Tryz.sizeOf178
  v44 := Tryz.zeroValue178
  t46 := Tryz.underlying180
  a46 := Tryz.isAgg180
  z46 := Tryz.sizeOf180
  v46 := Tryz.zeroValue180
  t53 := Tryz.underlying191
  a53 := Tryz.isAgg191
  z53 := Tryz.sizeOf191
  v53 := Tryz.zeroValue191
  t57 := Tryz.underlying195
  a57 := Tryz.isAgg195
  z57 := Tryz.sizeOf195
  v57 := Tryz.zeroValue195
  t63 := Tryz.underlying207
  a63 := Tryz.isAgg207
  z63 := Tryz.sizeOf207
  v63 := Tryz.zeroValue207
  t64 := Tryz.underlying208
  a64 := Tryz.isAgg208
  z64 := Tryz.sizeOf208
  v64 := Tryz.zeroValue208 }
end Go.Proofs

/- slices.Sorted(maps.Keys(m)): the kit's contracts as contracts of these texts. -/
set_option linter.unusedVariables false
set_option linter.unusedSimpArgs false
namespace Go.Proofs.YtmjiojflncffeaaGreat.Vc
open Go Go.Proofs Go.RowKit Go.Maps Go.Sort Go.Shelf

def keyI (p : Value × Value) : Int := match p.1 with | .int _ n => n | _ => 0
def keyT (p : Value × Value) : List UInt8 := match p.1 with | .string s => s.data.toList | _ => []
def anyD (_ : Value) : Option (DataW Unit × List MemPlace) := some (.nil, [])

theorem owns_int {w : World} {b : Nat} {o : Obj} {l : List (Value × Value)} {kt : TypeId} (hk : Tryz.prog.underlying kt = some (.int .i64)) (hb : w.heap[b]? = some o) (hm : MapI (some .i64) o l) (hr : ∀ p ∈ l, (Lit.int .i64 (keyI p)).wf = true) (hs : l.length ≤ maxLen) :
    ∃ nn D0, w.ownsMap Tryz.prog kt anyD b nn D0 ∧ (intKeys D0).Perm (l.map keyI) ∧ Maps.size D0 = l.length := by
  obtain ⟨es, cl, rfl, rfl, h1, h2⟩ := hm
  have hlen : es.size ≤ maxLen := by simpa using hs
  have hrd : ∀ x ∈ es.toList, Go.WideElems.rd Tryz.prog kt anyD x = some (.int .i64 (keyI (kv x)), .nil) := fun x hx => by
    obtain ⟨g1, _⟩ := h2 x hx
    have g2 := hr (kv x) (List.mem_map.2 ⟨x, hx, rfl⟩)
    cases hkx : x.key with
    | int k n =>
      rw [hkx] at g1
      have : k = .i64 := g1
      subst this
      have e : keyI (kv x) = n := by simp [keyI, kv, hkx]
      rw [e] at g2 ⊢
      unfold Go.WideElems.rd
      rw [hkx, keyOf_int_mk hk g2]
      rfl
    | _ => rw [hkx] at g1; exact g1.elim
  have hrg : ∀ x ∈ es.toList, Go.WideElems.rg Tryz.prog kt anyD x = (.int .i64 (keyI (kv x)), .nil) := fun x hx => by
    unfold Go.WideElems.rg; rw [hrd x hx]; rfl
  refine ⟨es.size, .map ((es.toList.map (Go.WideElems.rg Tryz.prog kt anyD)).foldr DataW.insert []), ⟨es, cl, hb, ⟨hlen, h1, fun x hx => ⟨_, hrd x hx⟩⟩, Nat.le_refl _, rfl⟩, ?_, ?_⟩
  · have hp := Go.WideShapes.sorted_perm (es.toList.map (Go.WideElems.rg Tryz.prog kt anyD))
    have := hp.map (fun p : Lit × DataW Unit => _root_.Go.intOf p.1)
    refine (show (intKeys (H := Unit) (.map ((es.toList.map (Go.WideElems.rg Tryz.prog kt anyD)).foldr DataW.insert []))).Perm _ from this).trans (List.Perm.of_eq ?_)
    rw [List.map_map, List.map_map]
    exact List.map_congr_left fun x hx => by simp [Function.comp, hrg x hx, _root_.Go.intOf]
  · have hp := Go.WideShapes.sorted_perm (es.toList.map (Go.WideElems.rg Tryz.prog kt anyD))
    rw [Maps.size_eq, hp.length_eq]
    simp
theorem owns_str {w : World} {b : Nat} {o : Obj} {l : List (Value × Value)} {kt : TypeId} (hk : Tryz.prog.underlying kt = some .string) (hb : w.heap[b]? = some o) (hm : MapI none o l) (hr : ∀ p ∈ l, (keyT p).length ≤ maxLen) (hs : l.length ≤ maxLen) :
    ∃ nn D0, w.ownsMap Tryz.prog kt anyD b nn D0 ∧ (strKeys D0).Perm (l.map keyT) ∧ Maps.size D0 = l.length := by
  obtain ⟨es, cl, rfl, rfl, h1, h2⟩ := hm
  have hlen : es.size ≤ maxLen := by simpa using hs
  have hrd : ∀ x ∈ es.toList, Go.WideElems.rd Tryz.prog kt anyD x = some (.string (keyT (kv x)), .nil) := fun x hx => by
    obtain ⟨g1, _⟩ := h2 x hx
    have g2 := hr (kv x) (List.mem_map.2 ⟨x, hx, rfl⟩)
    cases hkx : x.key with
    | string s =>
      have e : keyT (kv x) = s.data.toList := by simp [keyT, kv, hkx]
      rw [e] at g2 ⊢
      have g3 : s.size ≤ maxLen := by rw [Array.length_toList] at g2; exact g2
      unfold Go.WideElems.rd
      rw [hkx]
      simp [keyOf, hk, mapKey, g3, anyD]
    | _ => rw [hkx] at g1; exact g1.elim
  have hrg : ∀ x ∈ es.toList, Go.WideElems.rg Tryz.prog kt anyD x = (.string (keyT (kv x)), .nil) := fun x hx => by
    unfold Go.WideElems.rg; rw [hrd x hx]; rfl
  refine ⟨es.size, .map ((es.toList.map (Go.WideElems.rg Tryz.prog kt anyD)).foldr DataW.insert []), ⟨es, cl, hb, ⟨hlen, h1, fun x hx => ⟨_, hrd x hx⟩⟩, Nat.le_refl _, rfl⟩, ?_, ?_⟩
  · have hp := Go.WideShapes.sorted_perm (es.toList.map (Go.WideElems.rg Tryz.prog kt anyD))
    have := hp.map (fun p : Lit × DataW Unit => strOf p.1)
    refine (show (strKeys (H := Unit) (.map ((es.toList.map (Go.WideElems.rg Tryz.prog kt anyD)).foldr DataW.insert []))).Perm _ from this).trans (List.Perm.of_eq ?_)
    rw [List.map_map, List.map_map]
    exact List.map_congr_left fun x hx => by simp [Function.comp, hrg x hx, strOf]
  · have hp := Go.WideShapes.sorted_perm (es.toList.map (Go.WideElems.rg Tryz.prog kt anyD))
    rw [Maps.size_eq, hp.length_eq]
    simp

theorem sortsI (m : Nat) : AnyZI.SortsIn Tryz.prog Tryz.sortedI_ren Fence.wide m :=
  ⟨fun blk off cap ss W hH hblk hsz => callsIn_wide.2 (AnyM.slices_Sort_int Tryz.sortI blk off cap ss W hH hblk hsz),
   fun p cap W => callsIn_wide.2 (AnyM.slices_Sort_int_none Tryz.sortI p cap W)⟩
theorem sortsT (m : Nat) : AnyZ.SortsIn Tryz.prog Tryz.sortedT_ren Fence.wide m :=
  ⟨fun blk off cap ss W hH hblk hsz => callsIn_wide.2 (AnyM.slices_Sort_string Tryz.sortT blk off cap ss W hH hblk hsz),
   fun p cap W => callsIn_wide.2 (AnyM.slices_Sort_string_none Tryz.sortT p cap W)⟩

abbrev fKeysI : Nat := 58
abbrev fKeysI1 : Nat := 94
abbrev fSortedI : Nat := 57
abbrev fKeysT : Nat := 96
abbrev fKeysT1 : Nat := 134
abbrev fSortedT : Nat := 95

/-- What goes over a map's keys. -/
def keysV (f b : Nat) : Value := .func (.func f) #[] #[ptr b]
def KeysQ (f b : Nat) (rs : List GV) (m' : PH) : Prop := ∃ bm e, rs = [.s (keysV f bm)] ∧ m' bm = some (.cells #[.map (some b)] e (0, 0))

theorem spec_alloc {P : Program} {f : Nat} {args : List Value} {w : World} {ob : Obj} {v : Value} {Q : List GV → PH → Prop} (h : Calls P f args.toArray w fun e w' => e = .returned v ∧ w' = w.alloc ob) (hv : v.oneCell' = true) (hn : ∀ xs, v ≠ .tuple xs) (hq : Q [.s v] (one w.heap.size ob)) : Spec P f args PH.no w Q := by
  intro _
  refine h.mono fun e w' ⟨he, hw⟩ => ?_
  subst hw
  refine ⟨[.s v], one w.heap.size ob, by rw [he]; rfl, by simpa [GV.ok] using hv, hq, ?_, ?_, ⟨rfl, rfl, rfl, by simp, fun k hk _ => alloc_old hk⟩⟩
  · intro b o hb
    simp only [one] at hb
    split at hb
    · rename_i e; subst e
      simp only [Option.some.injEq] at hb
      subst hb
      exact alloc_new
    · cases hb
  · intro b hb
    right
    simp only [one] at hb
    split at hb
    · rename_i e; omega
    · exact absurd rfl hb

theorem keysI_spec (w : World) (b : Nat) : Spec Tryz.prog fKeysI [.map (some b)] PH.no w (KeysQ fKeysI1 b) :=
  spec_alloc (callsIn_wide.1 (AnyZI.keys_in Tryz.keysI Fence.wide 5 trivial rfl (some b) w)) rfl (fun xs h => by cases h) ⟨_, _, rfl, by simp [one]; rfl⟩
theorem keysT_spec (w : World) (b : Nat) : Spec Tryz.prog fKeysT [.map (some b)] PH.no w (KeysQ fKeysT1 b) :=
  spec_alloc (callsIn_wide.1 (AnyZ.keys_in Tryz.keysT Fence.wide 5 trivial rfl (some b) w)) rfl (fun xs h => by cases h) ⟨_, _, rfl, by simp [one]; rfl⟩

/-- A new row, handed back. -/
theorem spec_row {P : Program} {f : Nat} {args : List Value} {w : World} {et : TypeId} {Q : List GV → PH → Prop} (h : Calls P f args.toArray w fun e w' => ∃ v xs, e = .returned v ∧ w'.ownsRow w.heap.size et 1 v xs.length xs ∧ Below w.heap.size w w' ∧ (∀ x ∈ xs, x.oneCell' = true) ∧ ∀ m', SlO m' v et 1 (xs.map GV.s) → Q [.s v] m') : Spec P f args PH.no w Q := by
  intro _
  refine h.mono fun e w' ⟨v, xs, he, ⟨_, hrow⟩, hbl, hone, hq⟩ => ?_
  have hfl : ∀ l : List Value, flats (l.map GV.s) = l := fun l => by
    induction l with
    | nil => rfl
    | cons x l ih => simp only [flats, List.map_cons, List.flatMap_cons, GV.flat] at ih ⊢; rw [ih]; rfl
  have hels : Els 1 (xs.map GV.s) := fun x hx => by
    obtain ⟨y, hy, rfl⟩ := List.mem_map.1 hx
    exact ⟨hone y hy, rfl⟩
  rcases hrow with ⟨rfl, hz⟩ | ⟨g, cap, cur, rfl, hbase, hg, h1, h2, h3, h4⟩
  · have : xs = [] := List.length_eq_zero_iff.1 hz
    subst this
    exact ⟨[.s (.slice none 0 0)], PH.no, by rw [he]; rfl, by simp [GV.ok, Value.oneCell'], hq _ ⟨fun x hx => by simp at hx, .inl ⟨rfl, rfl⟩⟩, (fun _ _ h => by cases h), (fun b hb => absurd rfl hb), hbl.os, hbl.tape, hbl.output, hbl.size, fun k hk _ => hbl.block k hk⟩
  · refine ⟨[.s (.slice (some ⟨g, 0, none⟩) xs.length cap)], one g (.cells cur et (0, 0)), by rw [he]; rfl, by simp [GV.ok, Value.oneCell'], hq _ ⟨hels, .inr ⟨⟨g, 0, none⟩, cap, by simp, by simpa using h1, fun _ => ⟨cur, rfl, by simp [h3], by simp [one], fun j y hj => ?_⟩⟩⟩, ?_, ?_, hbl.os, hbl.tape, hbl.output, hbl.size, fun k hk _ => hbl.block k hk⟩
    · rw [hfl] at hj
      have : cur.toList[j]? = some y := by
        have hlt : j < xs.length := by
          rcases Nat.lt_or_ge j xs.length with h | h
          · exact h
          · rw [List.getElem?_eq_none h] at hj; cases hj
        rw [← h4] at hj
        rw [List.getElem?_take_of_lt (by omega)] at hj
        exact hj
      simpa using this
    · intro b o hb
      simp only [one] at hb
      split at hb
      · rename_i e; subst e
        simp only [Option.some.injEq] at hb
        subst hb
        exact hg
      · cases hb
    · intro b hb
      right
      simp only [one] at hb
      split at hb
      · rename_i e; omega
      · exact absurd rfl hb

def sortZ (l : List Int) : List Int := l.mergeSort fun x y => decide (x ≤ y)
def sortB (l : List (List UInt8)) : List (List UInt8) := l.mergeSort fun x y => decide (x ≤ y)

theorem sortedI_spec (w : World) (b bm : Nat) (e : TypeId) (fz : Nat × Nat) (o : Obj) (l : List (Value × Value)) (u : PH) (hu : u.le w) (hbm : u bm = some (.cells #[.map (some b)] e fz)) (hb : u b = some o) (hm : MapI (some .i64) o l) (hr : ∀ p ∈ l, (Lit.int .i64 (keyI p)).wf = true) (hs : l.length * 8 ≤ 140737488355328) :
    Spec Tryz.prog fSortedI [keysV fKeysI1 bm] PH.no w fun rs m' => ∃ v, rs = [.s v] ∧ SlO m' v 2 1 ((sortZ (l.map keyI)).map gi) := by
  have hmax : l.length ≤ maxLen := by unfold maxLen; omega
  obtain ⟨nn, D0, hown, hperm, hsize⟩ := owns_int (kt := 2) Tryz.underlying2 (hu _ _ hb) hm hr hmax
  have hblk := hu _ _ hbm
  have hseq : SeqGives Fence.wide 2 Tryz.prog fKeysI1 #[ptr bm] encZ (fun ss => ss.Perm (intKeys D0)) (Maps.size D0) w :=
    AnyZI.keys_gives (ρ := Tryz.keysI_ren) { Tryz.keysI with } Fence.wide _ trivial rfl (by omega) bm b nn D0 w (Array.getElem?_eq_some_iff.1 hblk).1 (by rw [cell_of hblk]; rfl) hown
  have cS := AnyZI.sorted_in Tryz.sortedI Fence.wide 5 trivial trivial trivial trivial rfl (by omega) (sortsI _) (enters_of Tryz.func93 (by kernel_rfl) rfl) fKeysI1 #[ptr bm] trivial (enters_of Tryz.func94 (by kernel_rfl) rfl) _ _ (by rw [hsize]; exact hmax) (by rw [hsize]; exact hs) w hseq
  refine spec_row (et := 2) ((callsIn_wide.1 cS).mono fun e w' ⟨v, ss, he, hS, hrow, _, hbl⟩ => ?_)
  have hss : (ss.mergeSort fun x y => decide (x ≤ y)) = sortZ (l.map keyI) := mergeSort_of_perm_i (hS.trans hperm)
  rw [hss] at hrow
  refine ⟨v, (sortZ (l.map keyI)).map encZ, he, ?_, hbl, fun x hx => ?_, fun m' hm' => ⟨v, rfl, ?_⟩⟩
  · have : ((sortZ (l.map keyI)).map encZ).length = ss.length := by rw [List.length_map, ← hss]; simp
    rw [this]; exact hrow
  · obtain ⟨n, _, rfl⟩ := List.mem_map.1 hx; rfl
  · rw [List.map_map] at hm'; exact hm'

theorem sortedT_spec (w : World) (b bm : Nat) (e : TypeId) (fz : Nat × Nat) (o : Obj) (l : List (Value × Value)) (u : PH) (hu : u.le w) (hbm : u bm = some (.cells #[.map (some b)] e fz)) (hb : u b = some o) (hm : MapI none o l) (hr : ∀ p ∈ l, (keyT p).length ≤ maxLen) (hs : l.length * 16 ≤ 140737488355328) :
    Spec Tryz.prog fSortedT [keysV fKeysT1 bm] PH.no w fun rs m' => ∃ v, rs = [.s v] ∧ SlO m' v 9 1 ((sortB (l.map keyT)).map fun b => .s (encStr b)) := by
  have hmax : l.length ≤ maxLen := by unfold maxLen; omega
  obtain ⟨nn, D0, hown, hperm, hsize⟩ := owns_str (kt := 9) Tryz.underlying9 (hu _ _ hb) hm hr hmax
  have hblk := hu _ _ hbm
  have hseq : SeqGives Fence.wide 2 Tryz.prog fKeysT1 #[ptr bm] encStr (fun ss => ss.Perm (strKeys D0)) (Maps.size D0) w :=
    AnyZ.keys_gives (ρ := Tryz.keysT_ren) { Tryz.keysT with } Fence.wide _ trivial rfl (by omega) bm b nn D0 w (Array.getElem?_eq_some_iff.1 hblk).1 (by rw [cell_of hblk]; rfl) hown
  have cS := AnyZ.sorted_in Tryz.sortedT Fence.wide 5 trivial trivial trivial trivial rfl (by omega) (sortsT _) (enters_of Tryz.func133 (by kernel_rfl) rfl) fKeysT1 #[ptr bm] trivial (enters_of Tryz.func134 (by kernel_rfl) rfl) _ _ (by rw [hsize]; exact hmax) (by rw [hsize]; exact hs) w hseq
  refine spec_row (et := 9) ((callsIn_wide.1 cS).mono fun e w' ⟨v, ss, he, hS, hrow, _, hbl⟩ => ?_)
  have hss : (ss.mergeSort fun x y => decide (x ≤ y)) = sortB (l.map keyT) := mergeSort_of_perm (hS.trans hperm)
  rw [hss] at hrow
  refine ⟨v, (sortB (l.map keyT)).map encStr, he, ?_, hbl, fun x hx => ?_, fun m' hm' => ⟨v, rfl, ?_⟩⟩
  · have : ((sortB (l.map keyT)).map encStr).length = ss.length := by rw [List.length_map, ← hss]; simp
    rw [this]; exact hrow
  · obtain ⟨n, _, rfl⟩ := List.mem_map.1 hx; rfl
  · rw [List.map_map] at hm'; exact hm'
end Go.Proofs.YtmjiojflncffeaaGreat.Vc

/- The code of some functions of the program, its types resolved: printed by a program of this claim. -/
set_option linter.unusedVariables false
set_option maxRecDepth 100000
namespace Go.Proofs.YtmjiojflncffeaaGreat.Vc
open Go Go.Proofs

abbrev f_tree_Tree_told : Nat := 59
def c_tree_Tree_told_L0 : Cd :=
 (.seq (.rg [⟨none, [(some 35, .bin .lss (.t 34) (.t 33))]⟩] [4, 5, 6, 32, 33, 34, 35])
 (.seq (.ite (.t 35)
 .skip
 (.exit 0))
 (.seq (.block 1 (.seq (.rg [⟨none, [(some 36, .idxS (.t 32) (.t 34) 1), (some 37, .ld (.t 36) 1 false), (some 8, .mv (.t 37))]⟩] [4, 5, 6, 8, 32, 33, 34])
 (.rga (.op ⟨none, [(some 38, .fldA (.t 6) 3 3)]⟩ (.op ⟨none, [(some 40, .mv (.t 8))]⟩ (.op ⟨none, [(some 41, .mv (.t 5))]⟩ (.op ⟨none, [(some 42, .nilc (.t 41))]⟩ (.op ⟨none, [(some 43, .fldA (.t 42) 1 2)]⟩ (.op ⟨none, [(some 45, .mv (.t 8))]⟩ (.or (.op ⟨none, [(some 39, .ld (.t 38) 1 false)]⟩ (.op ⟨none, [(some 44, .ld (.t 43) 1 false)]⟩ (.op ⟨none, [(some 46, .mlk none (.t 44) (.t 45) (.string ⟨#[]⟩) false)]⟩ (.op ⟨none, [(some 47, .bld (.c (.s (.string ⟨#[]⟩)) (.c (.s (.string ⟨#[]⟩)) .u)) [(0, (.t 40)), (1, (.t 46))])]⟩ (.op ⟨none, [(some 48, .bldS 75 2 (.c (.s (.string ⟨#[]⟩)) (.c (.s (.string ⟨#[]⟩)) .u)) [(.t 47)])]⟩ (.op ⟨none, [(some 49, .app 75 2 32 (.c (.s (.string ⟨#[]⟩)) (.c (.s (.string ⟨#[]⟩)) .u)) (.t 39) (.t 48))]⟩ (.op ⟨none, [(some 50, .fldA (.t 6) 3 3)]⟩ (.op ⟨none, [(none, .st (.t 50) (.t 49) 1)]⟩ .done)))))))) (.op ⟨none, [(some 44, .ld (.t 43) 1 false)]⟩ (.or (.op ⟨none, [(some 39, .ld (.t 38) 1 false)]⟩ (.op ⟨none, [(some 46, .mlk none (.t 44) (.t 45) (.string ⟨#[]⟩) false)]⟩ (.op ⟨none, [(some 47, .bld (.c (.s (.string ⟨#[]⟩)) (.c (.s (.string ⟨#[]⟩)) .u)) [(0, (.t 40)), (1, (.t 46))])]⟩ (.op ⟨none, [(some 48, .bldS 75 2 (.c (.s (.string ⟨#[]⟩)) (.c (.s (.string ⟨#[]⟩)) .u)) [(.t 47)])]⟩ (.op ⟨none, [(some 49, .app 75 2 32 (.c (.s (.string ⟨#[]⟩)) (.c (.s (.string ⟨#[]⟩)) .u)) (.t 39) (.t 48))]⟩ (.op ⟨none, [(some 50, .fldA (.t 6) 3 3)]⟩ (.op ⟨none, [(none, .st (.t 50) (.t 49) 1)]⟩ .done))))))) (.op ⟨none, [(some 46, .mlk none (.t 44) (.t 45) (.string ⟨#[]⟩) false)]⟩ (.op ⟨none, [(some 47, .bld (.c (.s (.string ⟨#[]⟩)) (.c (.s (.string ⟨#[]⟩)) .u)) [(0, (.t 40)), (1, (.t 46))])]⟩ (.or (.op ⟨none, [(some 39, .ld (.t 38) 1 false)]⟩ (.op ⟨none, [(some 48, .bldS 75 2 (.c (.s (.string ⟨#[]⟩)) (.c (.s (.string ⟨#[]⟩)) .u)) [(.t 47)])]⟩ (.op ⟨none, [(some 49, .app 75 2 32 (.c (.s (.string ⟨#[]⟩)) (.c (.s (.string ⟨#[]⟩)) .u)) (.t 39) (.t 48))]⟩ (.op ⟨none, [(some 50, .fldA (.t 6) 3 3)]⟩ (.op ⟨none, [(none, .st (.t 50) (.t 49) 1)]⟩ .done))))) (.op ⟨none, [(some 48, .bldS 75 2 (.c (.s (.string ⟨#[]⟩)) (.c (.s (.string ⟨#[]⟩)) .u)) [(.t 47)])]⟩ (.op ⟨none, [(some 39, .ld (.t 38) 1 false)]⟩ (.op ⟨none, [(some 49, .app 75 2 32 (.c (.s (.string ⟨#[]⟩)) (.c (.s (.string ⟨#[]⟩)) .u)) (.t 39) (.t 48))]⟩ (.op ⟨none, [(some 50, .fldA (.t 6) 3 3)]⟩ (.op ⟨none, [(none, .st (.t 50) (.t 49) 1)]⟩ .done))))))))))))))))) [4, 5, 6, 32, 33, 34])))
 (.rg [⟨none, [(some 51, .bin .add (.t 34) (.c (.int .i64 1))), (some 34, .mv (.t 51))]⟩] [4, 5, 6, 32, 33, 34]))))
def c_tree_Tree_told_R3 : Cd :=
 (.seq (.seq (.gh (.rg [⟨none, [(some 27, .mv (.t 5)), (some 28, .nilc (.t 27)), (some 29, .fldA (.t 28) 1 2), (some 30, .ld (.t 29) 1 false), (some 31, .call 96 [(.t 30)]), (some 32, .call 95 [(.t 31)]), (none, .gh), (some 33, .len (.t 32)), (some 34, .mv (.c (.int .i64 0)))]⟩] [4, 5, 6, 32, 33, 34]))
 (.block 0 (.loop c_tree_Tree_told_L0)))
 (.seq (.rg [⟨none, [(some 52, .ld (.t 6) 4 true), (none, .st (.t 4) (.t 52) 4)]⟩] [4])
 .ret))
def c_tree_Tree_told : Cd :=
 (.seq (.rg [⟨none, [(some 4, .new 49 (.c (.s (.int .i64 0)) (.c (.s (.int .i64 0)) (.c (.s (.string ⟨#[]⟩)) (.c (.s (.slice none 0 0)) .u)))))]⟩] [0, 1, 4])
 (.seq (.rg [⟨none, [(some 9, .mv (.t 0)), (some 10, .nilc (.t 9)), (some 11, .fldA (.t 10) 0 0), (some 12, .ld (.t 11) 1 false), (some 13, .mv (.t 1)), (some 14, .mlk (some .i64) (.t 12) (.t 13) (.pointer none) false), (some 5, .mv (.t 14))]⟩] [1, 4, 5])
 (.seq (.rga (.op ⟨none, [(some 15, .mv (.t 1))]⟩ (.op ⟨none, [(some 16, .mv (.t 5))]⟩ (.op ⟨none, [(some 17, .nilc (.t 16))]⟩ (.op ⟨none, [(some 18, .fldA (.t 17) 0 0)]⟩ (.op ⟨none, [(some 19, .fldA (.t 18) 0 0)]⟩ (.op ⟨none, [(some 21, .mv (.t 5))]⟩ (.op ⟨none, [(some 22, .nilc (.t 21))]⟩ (.op ⟨none, [(some 23, .fldA (.t 22) 0 0)]⟩ (.op ⟨none, [(some 24, .fldA (.t 23) 1 1)]⟩ (.or (.op ⟨none, [(some 20, .ld (.t 19) 1 false)]⟩ (.or (.op ⟨none, [(some 25, .ld (.t 24) 1 false)]⟩ (.op ⟨none, [(some 26, .bld (.c (.s (.int .i64 0)) (.c (.s (.int .i64 0)) (.c (.s (.string ⟨#[]⟩)) (.c (.s (.slice none 0 0)) .u)))) [(0, (.t 15)), (1, (.t 20)), (2, (.t 25))])]⟩ (.op ⟨none, [(some 6, .new 49 (.c (.s (.int .i64 0)) (.c (.s (.int .i64 0)) (.c (.s (.string ⟨#[]⟩)) (.c (.s (.slice none 0 0)) .u)))))]⟩ (.op ⟨none, [(none, .st (.t 6) (.t 26) 4)]⟩ .done)))) (.op ⟨none, [(some 6, .new 49 (.c (.s (.int .i64 0)) (.c (.s (.int .i64 0)) (.c (.s (.string ⟨#[]⟩)) (.c (.s (.slice none 0 0)) .u)))))]⟩ (.op ⟨none, [(some 25, .ld (.t 24) 1 false)]⟩ (.op ⟨none, [(some 26, .bld (.c (.s (.int .i64 0)) (.c (.s (.int .i64 0)) (.c (.s (.string ⟨#[]⟩)) (.c (.s (.slice none 0 0)) .u)))) [(0, (.t 15)), (1, (.t 20)), (2, (.t 25))])]⟩ (.op ⟨none, [(none, .st (.t 6) (.t 26) 4)]⟩ .done)))))) (.or (.op ⟨none, [(some 25, .ld (.t 24) 1 false)]⟩ (.or (.op ⟨none, [(some 20, .ld (.t 19) 1 false)]⟩ (.op ⟨none, [(some 26, .bld (.c (.s (.int .i64 0)) (.c (.s (.int .i64 0)) (.c (.s (.string ⟨#[]⟩)) (.c (.s (.slice none 0 0)) .u)))) [(0, (.t 15)), (1, (.t 20)), (2, (.t 25))])]⟩ (.op ⟨none, [(some 6, .new 49 (.c (.s (.int .i64 0)) (.c (.s (.int .i64 0)) (.c (.s (.string ⟨#[]⟩)) (.c (.s (.slice none 0 0)) .u)))))]⟩ (.op ⟨none, [(none, .st (.t 6) (.t 26) 4)]⟩ .done)))) (.op ⟨none, [(some 6, .new 49 (.c (.s (.int .i64 0)) (.c (.s (.int .i64 0)) (.c (.s (.string ⟨#[]⟩)) (.c (.s (.slice none 0 0)) .u)))))]⟩ (.op ⟨none, [(some 20, .ld (.t 19) 1 false)]⟩ (.op ⟨none, [(some 26, .bld (.c (.s (.int .i64 0)) (.c (.s (.int .i64 0)) (.c (.s (.string ⟨#[]⟩)) (.c (.s (.slice none 0 0)) .u)))) [(0, (.t 15)), (1, (.t 20)), (2, (.t 25))])]⟩ (.op ⟨none, [(none, .st (.t 6) (.t 26) 4)]⟩ .done)))))) (.op ⟨none, [(some 6, .new 49 (.c (.s (.int .i64 0)) (.c (.s (.int .i64 0)) (.c (.s (.string ⟨#[]⟩)) (.c (.s (.slice none 0 0)) .u)))))]⟩ (.or (.op ⟨none, [(some 20, .ld (.t 19) 1 false)]⟩ (.op ⟨none, [(some 25, .ld (.t 24) 1 false)]⟩ (.op ⟨none, [(some 26, .bld (.c (.s (.int .i64 0)) (.c (.s (.int .i64 0)) (.c (.s (.string ⟨#[]⟩)) (.c (.s (.slice none 0 0)) .u)))) [(0, (.t 15)), (1, (.t 20)), (2, (.t 25))])]⟩ (.op ⟨none, [(none, .st (.t 6) (.t 26) 4)]⟩ .done)))) (.op ⟨none, [(some 25, .ld (.t 24) 1 false)]⟩ (.op ⟨none, [(some 20, .ld (.t 19) 1 false)]⟩ (.op ⟨none, [(some 26, .bld (.c (.s (.int .i64 0)) (.c (.s (.int .i64 0)) (.c (.s (.string ⟨#[]⟩)) (.c (.s (.slice none 0 0)) .u)))) [(0, (.t 15)), (1, (.t 20)), (2, (.t 25))])]⟩ (.op ⟨none, [(none, .st (.t 6) (.t 26) 4)]⟩ .done))))))))))))))))) [4, 5, 6])
 c_tree_Tree_told_R3)))
theorem k_tree_Tree_told : Ok Tryz.prog 59 c_tree_Tree_told 53 [(2, 999999), (6, 999999)] [.cell 4 4 true] := Ok.mk' Tryz.func59 (by kernel_rfl) (by kernel_rfl) (by kernel_rfl)

abbrev f_tree_Tree_Nodes : Nat := 21
def c_tree_Tree_Nodes_L0 : Cd :=
 (.seq (.rg [⟨none, [(some 17, .bin .lss (.t 16) (.t 15))]⟩] [0, 3, 14, 15, 16, 17])
 (.seq (.ite (.t 17)
 .skip
 (.exit 0))
 (.seq (.block 1 (.seq (.rg [⟨none, [(some 18, .idxS (.t 14) (.t 16) 1), (some 19, .ld (.t 18) 1 false), (some 5, .mv (.t 19))]⟩] [0, 3, 5, 14, 15, 16])
 (.seq (.rg [⟨none, [(some 20, .mv (.t 0)), (some 21, .mv (.t 5)), (some 22, .call 59 [(.t 20), (.t 21)]), (some 6, .new 49 (.c (.s (.int .i64 0)) (.c (.s (.int .i64 0)) (.c (.s (.string ⟨#[]⟩)) (.c (.s (.slice none 0 0)) .u))))), (none, .st (.t 6) (.t 22) 4)]⟩] [0, 3, 5, 6, 14, 15, 16])
 (.seq (.rg [⟨none, [(some 23, .mv (.t 5)), (some 24, .call 60 [(.t 23)]), (some 25, .un .not (.t 24)), (some 26, .mv (.t 25))]⟩, ⟨some (26, false), [(some 27, .fldA (.t 6) 3 3), (some 28, .ld (.t 27) 1 false), (some 29, .len (.t 28)), (some 30, .bin .gtr (.t 29) (.c (.int .i64 0)))]⟩, ⟨none, [(some 31, .pick (.t 26) (.c (.bool true)) (.t 30))]⟩] [0, 3, 6, 14, 15, 16, 31])
 (.ite (.t 31)
 (.rg [⟨none, [(some 32, .mv (.t 3)), (some 33, .ld (.t 6) 4 true), (some 34, .bldS 49 4 (.c (.s (.int .i64 0)) (.c (.s (.int .i64 0)) (.c (.s (.string ⟨#[]⟩)) (.c (.s (.slice none 0 0)) .u)))) [(.t 33)]), (some 35, .app 49 4 56 (.c (.s (.int .i64 0)) (.c (.s (.int .i64 0)) (.c (.s (.string ⟨#[]⟩)) (.c (.s (.slice none 0 0)) .u)))) (.t 32) (.t 34)), (some 3, .mv (.t 35))]⟩] [0, 3, 14, 15, 16])
 .skip)))))
 (.rg [⟨none, [(some 36, .bin .add (.t 16) (.c (.int .i64 1))), (some 16, .mv (.t 36))]⟩] [0, 3, 14, 15, 16]))))
def c_tree_Tree_Nodes : Cd :=
 (.seq (.rg [⟨none, [(some 2, .mv (.c (.slice none 0 0)))]⟩] [0])
 (.seq (.seq (.rg [⟨none, [(some 7, .mv (.t 0)), (some 8, .call 56 [(.t 7)])]⟩] [0, 8])
 (.ite (.t 8)
 (.seq (.rg [⟨none, [(some 2, .mv (.c (.slice none 0 0)))]⟩] [2])
 .ret)
 .skip))
 (.seq (.rg [⟨none, [(some 3, .mv (.c (.slice none 0 0)))]⟩] [0, 3])
 (.seq (.seq (.rg [⟨none, [(none, .gh), (some 9, .mv (.t 0)), (some 10, .nilc (.t 9)), (some 11, .fldA (.t 10) 0 0), (some 12, .ld (.t 11) 1 false), (some 13, .call 58 [(.t 12)]), (some 14, .call 57 [(.t 13)]), (none, .gh), (some 15, .len (.t 14)), (some 16, .mv (.c (.int .i64 0)))]⟩] [0, 3, 14, 15, 16])
 (.block 0 (.loop c_tree_Tree_Nodes_L0)))
 (.seq (.rg [⟨none, [(some 37, .mv (.t 3)), (some 2, .mv (.t 37)), (none, .gh)]⟩] [2])
 .ret)))))
theorem k_tree_Tree_Nodes : Ok Tryz.prog 21 c_tree_Tree_Nodes 38 [] [.tmp 2] := Ok.mk' Tryz.func21 (by kernel_rfl) (by kernel_rfl) (by kernel_rfl)

end Go.Proofs.YtmjiojflncffeaaGreat.Vc

/- A node as it is told; all nodes. -/
set_option linter.unusedVariables false
set_option linter.unusedSimpArgs false
set_option maxRecDepth 100000
namespace Go.Proofs.YtmjiojflncffeaaGreat.Vc
open Go Go.Proofs

def attrKeys (x : PN) : List (List UInt8) := sortB (x.attrs.map fun p => p.1.data.toList)
def attrsOf (x : PN) : List Attr := (attrKeys x).map fun k => ⟨mkS k, (getS x.attrs (mkS k)).getD ⟨#[]⟩⟩
/-- No attribute is too great to be told. -/
def PN.small (x : PN) : Prop := x.attrs.length * 32 ≤ 140737488355328 ∧ ∀ p ∈ x.attrs, p.1.size ≤ 140737488355328

theorem told_spec (w : World) (u : PH) (hu : u.le w) (L : Lay) (T : PT) (hT : TM u L T) (n : Int) (x : PN) (hx : T.get n = some x) (hsm : x.small) :
    Spec Tryz.prog f_tree_Tree_told [ptr (L .t), .int .i64 n] PH.no w fun rs m' => ∃ v, rs = [gTreeNode ⟨n, x.parent, x.name, v⟩] ∧ SlO m' v 75 2 ((attrsOf x).map gAttr) := by
  refine spec_of k_tree_Tree_told [.g (.s (ptr (L .t))), .g (.s (.int .i64 n))] (by simp) (by simp [AV.ok, GV.ok, Value.oneCell', ptr]) ?_
  have hk : ∀ {l : List PH}, KN (⟨Tryz.prog, 53, w, PH.no⟩ : Ctx).u0 l u := kn_u hu
  obtain ⟨hs1, hs2⟩ := hsm
  have hkt : ((rawA x.attrs).map keyT) = x.attrs.map fun p => p.1.data.toList := by simp [rawA, keyT, Function.comp_def]
  have tail : ∀ σ : SS, Ge σ ⟨[(4, .ref 4 []), (5, .g (.s (.pointer (some ⟨L (.nd n), 0, none⟩)))), (6, .ref 6 [])], [(4, .box (gTreeNode zTreeNode)), (6, .box (gTreeNode ⟨n, x.parent, x.name, zTreeNode.attrs⟩))], [], PH.no⟩ →
      vc ⟨Tryz.prog, 53, w, PH.no⟩ c_tree_Tree_told_R3 (finQ ⟨Tryz.prog, 53, w, PH.no⟩ [.cell 4 4 true] fun rs m' => ∃ v, rs = [gTreeNode ⟨n, x.parent, x.name, v⟩] ∧ SlO m' v 75 2 ((attrsOf x).map gAttr)) σ := by
    intro σ hσ
    unfold c_tree_Tree_told_R3
    rw [vc_seq, vc_seq]
    refine vc_gh_of_ge hσ ?_
    simp (maxSteps := 2000000) only [vc_rg, segs_n, ops_cons, vcOp, ev, look, put_mk, Nat.reduceEqDiff, ↓reduceIte, Nat.zero_add]
    refine ld_of _ (hT.s_node hk hx).2.2.1 rfl ?_
    simp (maxSteps := 2000000) only [ops_cons, vcOp, put_mk]
    refine call_frzm rfl rfl (Q := KeysQ fKeysT1 (L (.ab n))) (fun w' vs hv hw _ _ => ?_) fun rs m1 _ hq => ?_
    · obtain ⟨vs, rfl, _, hv⟩ := argsV_g hv
      obtain rfl := argsV_nil hv
      exact keysT_spec w' (L (.ab n))
    obtain ⟨bm, e, rfl, hbm⟩ := hq
    simp (maxSteps := 2000000) only [retS, ops_cons, vcOp, put_mk]
    obtain ⟨o, idsV, h1, h2⟩ := hT.at (.ab n) ⟨x, hx⟩
    refine call_frzm rfl rfl (Q := fun rs m' => ∃ v, rs = [.s v] ∧ SlO m' v 9 1 ((attrKeys x).map gN)) (fun w' vs hv hw hph _ => ?_) fun rs m2 _ hq => ?_
    · obtain ⟨vs, rfl, _, hv⟩ := argsV_g hv
      obtain rfl := argsV_nil hv
      have hm1 := hph m1 (by simp)
      have := sortedT_spec w' (L (.ab n)) bm e (0, 0) o (rawA x.attrs) w'.ph (fun _ _ h => h) (hm1 _ _ hbm) (hw _ _ (by rw [u0_no]; exact hu _ _ h1)) (h2 x hx) (fun p hp => by
        obtain ⟨q, hq, rfl⟩ := List.mem_map.1 hp
        have := hs2 q hq
        simp only [keyT, Array.length_toList]
        unfold maxLen
        have e : q.1.data.size = q.1.size := rfl
        omega) (by simp [rawA]; omega)
      rw [hkt] at this
      exact this
    obtain ⟨v0, rfl, hv0⟩ := hq
    simp (maxSteps := 2000000) only [retS, ops_cons, vcOp, put_mk]
    refine gh_rk 32 32 (.s (.string ⟨#[]⟩)) rfl rfl hv0.toR (KN.mem (by simp)) ?_
    simp (maxSteps := 2000000) only [List.length_map, vc_block, thenQ_n, kKeep_eq, segs_nil, ops_nil, ops_cons, vcOp, ev, look, put_mk, keep_mk, keepL, Value.oneCell', cond_true, Nat.reduceEqDiff, ↓reduceIte, List.length_map, List.length_map]
    have hlen : (attrKeys x).length = x.attrs.length := by simp [attrKeys, sortB]
    have hlenA : (attrsOf x).length = (attrKeys x).length := by simp [attrsOf]
    refine vc_loop (ι := Nat × Value × PH) (fun q => ⟨[(4, .ref 4 []), (5, .g (.s (.pointer (some ⟨L (.nd n), 0, none⟩)))), (6, .ref 6 []), (32, .row 32 0 ((attrKeys x).length)), (33, .g (.s (.int .i64 ((attrKeys x).length)))), (34, .g (.s (.int .i64 (q.1))))], [(32, .ro 1 (.s (.string ⟨#[]⟩)) ((attrKeys x).map gN)), (4, .box (gTreeNode zTreeNode)), (6, .box (gTreeNode ⟨n, x.parent, x.name, q.2.1⟩))], [m2, m1], q.2.2⟩)
      (fun q => q.1 ≤ (attrKeys x).length ∧ SlO q.2.2 q.2.1 75 2 (((attrsOf x).take q.1).map gAttr)) (fun q => (attrKeys x).length - q.1) (0, .slice none 0 0, PH.no) ⟨by simp, ⟨fun x hx => by simp at hx, .inl ⟨rfl, by simp⟩⟩⟩ (ge_of ?_ ?_ rfl rfl rfl) ?_
    · simp [frIn, look]
    · simp [pvIn, look]; rfl
    rintro ⟨i, v, mA⟩ ⟨hi, hvA⟩
    simp only at hi hvA
    generalize hQ : loopQ _ _ _ _ _ = Q
    simp (maxSteps := 2000000) only [c_tree_Tree_told_L0, vc_skip, vc_exit, vc_seq, vc_block, vc_rg, vc_rga, vc_ite, thenQ_n, thenQ_e, kKeep_eq, segs_nil, segs_n, ops_nil, ops_cons, ot_op, ot_or, vcOp, ev, look, put_mk, keep_mk, keepL, rowE, rowD, binV, binC, GV.getT, Nat.reduceEqDiff, ↓reduceIte, List.nil_append, Nat.zero_add, Bool.true_and, Bool.not_false, true_and, Int.toNat_natCast, decide_eq_true_eq, decide_eq_false_iff_not, br_t, getT_nil, fits_s, gTreeNode_fld3, gTreeNode_get3, getD_gN]
    refine ⟨fun hlt => ⟨⟨by omega, by omega⟩, ?_⟩, fun hge => ?_⟩
    · have hta : ((attrsOf x).take (i + 1)).map gAttr = ((attrsOf x).take i).map gAttr ++ [gAttr ⟨mkS ((attrKeys x).getD i []), (getS x.attrs (mkS ((attrKeys x).getD i []))).getD ⟨#[]⟩⟩] := by
        rw [List.take_add_one, List.map_append]
        congr 1
        rw [attrsOf, List.getElem?_map, List.getD_eq_getElem?_getD, List.getElem?_eq_getElem (by omega)]
        rfl
      have hbd : (((((attrsOf x).take i).map gAttr)).length + 1) * 32 ≤ 140737488355328 := by
        rw [List.length_map, List.length_take]
        omega
      repeat' (first
        | (refine ld_of _ (hT.s_node hk hx).2.2.1 rfl ?_; simp (maxSteps := 2000000) only [gAttr_zero, segs_nil, segs_n, ops_nil, ops_cons, ot_op, ot_or, vcOp, ev, look, put_mk, GV.getT, Nat.reduceEqDiff, ↓reduceIte, Bool.true_and, Bool.not_false, true_and, fits_s, gTreeNode_get3])
        | (refine hT.lkA hk hx ?_; simp (maxSteps := 2000000) only [segs_nil, segs_n, ops_nil, ops_cons, ot_op, ot_or, vcOp, ev, evL, gvL, look, updL, put_mk, rowE, GV.getT, GV.same, Nat.reduceEqDiff, ↓reduceIte, Nat.zero_add, Bool.and_true, Bool.true_and, Bool.not_false, true_and, and_true, List.map_cons, List.map_nil, Option.map_some, szAll, List.length_cons, List.length_nil, List.drop_zero, List.take_succ_cons, List.take_zero, GV.bldT, GV.bldC, fits_s, gTreeNode_get3, gAttr_sz, gAttr_get0, gAttr_set0, gAttr_get1, gAttr_set1])
        | (refine app_of rfl rfl mA PH.no (((attrsOf x).take i).map gAttr) hvA (uni_no_r _).symm (dis_no_r _) hbd fun v' u' hv' hs' _ => ?_; simp (maxSteps := 2000000) only [uni_no_r, vc_rg, thenQ_n, blockQ_n, kKeep_eq, segs_nil, segs_n, ops_nil, ops_cons, ot_done, ot_op, vcOp, ev, look, updL, put_mk, put_mk0, keep_mk, keepL, binV, binC, GV.getT, GV.sz, GV.same, Value.oneCell', cond_true, Nat.reduceEqDiff, ↓reduceIte, List.nil_append, Bool.and_true, Bool.true_and, true_and, and_true, getT_nil, gTreeNode_fld3, gTreeNode_get3, gTreeNode_set3])
        | rfl
        | refine And.intro ?_ ?_)
      all_goals
        subst hQ; simp only [loopQ_n]; refine ⟨(i + 1, v', u'), ?_, ?_, ge_of ?_ ?_ rfl rfl rfl⟩
        · exact ⟨by simp only; omega, by simp only; rw [hta]; exact hs'⟩
        · simp only; omega
        · simp only [frIn, look, Nat.reduceEqDiff, ↓reduceIte, Bool.and_true, Bool.true_and, true_and, and_true]
          rw [wrap_n (by omega)]
          try simp
        · simp [pvIn, look]
    · subst hQ
      simp (maxSteps := 2000000) only [vc_ret, vc_seq, vc_rg, thenQ_n, blockQ_e, kKeep_eq, loopQ_e, finQ_r, segs_nil, segs_n, ops_nil, ops_cons, vcOp, ev, look, updL, put_mk, put_mk0, keep_mk, keepL, Nat.reduceEqDiff, ↓reduceIte, Bool.and_true, Bool.true_and, true_and, and_true, getT_nil, setT_nil, gTreeNode_sz, gTreeNode_fits, gTreeNode_same]
      have hfull : (attrsOf x).take i = attrsOf x := List.take_of_length_le (by omega)
      rw [hfull] at hvA
      exact fin_m (rs := [gTreeNode ⟨n, x.parent, x.name, v⟩]) _ rfl (fun _ _ h => h) ⟨v, rfl, hvA⟩
  simp (maxSteps := 2000000) only [c_tree_Tree_told, vc_seq, vc_rg, thenQ_n, kKeep_eq, segs_nil, segs_n, ops_nil, ops_cons, vcOp, ev, look, updL, put_mk, keep_mk, keepL, Nat.reduceEqDiff, ↓reduceIte, reduceCtorEq, Nat.zero_add, Nat.add_zero, Bool.true_and, true_and, initF, initP, gTreeNode_zero, ptr]
  refine ld_of _ (hT.s_map hk) rfl ?_
  simp (maxSteps := 2000000) only [ops_cons, vcOp, ev, look, put_mk, Nat.reduceEqDiff, ↓reduceIte, reduceCtorEq]
  refine hT.lk hk n ?_
  rw [hx]
  simp (maxSteps := 2000000) only [vc_seq, vc_rga, thenQ_n, kKeep_eq, segs_nil, segs_n, ops_nil, ops_cons, ot_op, ot_or, vcOp, ev, look, updL, put_mk, keep_mk, keepL, Nat.reduceEqDiff, ↓reduceIte, reduceCtorEq, Nat.zero_add, Nat.add_zero, Bool.true_and, true_and, nptr_some]
  repeat' (first
    | (refine ld_of _ (hT.s_node hk hx).1 rfl ?_; simp (maxSteps := 2000000) only [thenQ_n, kKeep_eq, segs_nil, segs_n, ops_nil, ops_cons, ot_done, ot_op, ot_or, vcOp, ev, evL, gvL, look, updL, put_mk, put_mk0, keep_mk, keepL, GV.getT, GV.same, Nat.reduceEqDiff, ↓reduceIte, Bool.and_true, Bool.true_and, true_and, and_true, List.map_cons, List.map_nil, Option.map_some, GV.bldT, GV.bldC, same_int, getT_nil, setT_nil, gTreeNode_sz, gTreeNode_same, gTreeNode_get0, gTreeNode_set0, gTreeNode_get1, gTreeNode_set1, gTreeNode_get2, gTreeNode_set2])
    | (refine ld_of _ (hT.s_node hk hx).2.1 rfl ?_; simp (maxSteps := 2000000) only [thenQ_n, kKeep_eq, segs_nil, segs_n, ops_nil, ops_cons, ot_done, ot_op, ot_or, vcOp, ev, evL, gvL, look, updL, put_mk, put_mk0, keep_mk, keepL, GV.getT, GV.same, Nat.reduceEqDiff, ↓reduceIte, Bool.and_true, Bool.true_and, true_and, and_true, List.map_cons, List.map_nil, Option.map_some, GV.bldT, GV.bldC, same_int, getT_nil, setT_nil, gTreeNode_sz, gTreeNode_same, gTreeNode_get0, gTreeNode_set0, gTreeNode_get1, gTreeNode_set1, gTreeNode_get2, gTreeNode_set2])
    | rfl
    | (refine tail _ (ge_of ?_ ?_ rfl rfl rfl) <;> simp [frIn, pvIn, look])
    | refine And.intro ?_ ?_)
end Go.Proofs.YtmjiojflncffeaaGreat.Vc

/- All nodes. -/
set_option linter.unusedVariables false
set_option linter.unusedSimpArgs false
set_option maxRecDepth 100000
namespace Go.Proofs.YtmjiojflncffeaaGreat.Vc
open Go Go.Proofs

/-- A node as it is told. -/
structure TN where
  node : Int
  parent : Int
  name : ByteArray
  attrs : List Attr
def toldOf (n : Int) (x : PN) : TN := ⟨n, x.parent, x.name, attrsOf x⟩
def nodesK (T : PT) : List Int := sortZ (T.nodes.map (·.1))
def TN.shown (t : TN) : Bool := !topB t.node || decide (t.attrs.length > 0)
def toldL (T : PT) (l : List Int) : List TN := (l.filterMap fun n => (T.get n).map fun x => toldOf n x).filter TN.shown
def nodesTold (T : PT) : List TN := toldL T (nodesK T)

def TsOk (m : PH) : List TreeNode → List TN → Prop
  | [], [] => True
  | t :: ts, a :: r => (t.node = a.node ∧ t.parent = a.parent ∧ t.name = a.name ∧ SlR m t.attrs 2 (a.attrs.map gAttr)) ∧ TsOk m ts r
  | _, _ => False
theorem TsOk.len {m : PH} : ∀ {ts : List TreeNode} {l : List TN}, TsOk m ts l → ts.length = l.length
  | [], [], _ => rfl
  | _ :: _, _ :: _, h => by simp [h.2.len]
  | [], _ :: _, h => h.elim
  | _ :: _, [], h => h.elim
theorem TsOk.up {m m' : PH} (hs : PH.sub m m') : ∀ {ts : List TreeNode} {l : List TN}, TsOk m ts l → TsOk m' ts l
  | [], [], _ => trivial
  | _ :: _, _ :: _, h => ⟨⟨h.1.1, h.1.2.1, h.1.2.2.1, h.1.2.2.2.up hs⟩, h.2.up hs⟩
  | [], _ :: _, h => h.elim
  | _ :: _, [], h => h.elim
theorem TsOk.snoc {m : PH} {t : TreeNode} {a : TN} (ht : t.node = a.node ∧ t.parent = a.parent ∧ t.name = a.name ∧ SlR m t.attrs 2 (a.attrs.map gAttr)) : ∀ {ts : List TreeNode} {l : List TN}, TsOk m ts l → TsOk m (ts ++ [t]) (l ++ [a])
  | [], [], _ => ⟨ht, trivial⟩
  | _ :: _, _ :: _, h => ⟨h.1, h.2.snoc ht⟩
  | [], _ :: _, h => h.elim
  | _ :: _, [], h => h.elim

/-- A tree that can be told. -/
structure PT.tells (T : PT) : Prop where
  few : T.nodes.length * 56 ≤ 140737488355328
  keys : ∀ n x, T.get n = some x → (Lit.int .i64 n).wf = true
  small : ∀ n x, T.get n = some x → x.small
theorem mem_nodesK {T : PT} {n : Int} (h : n ∈ nodesK T) : ∃ x, T.get n = some x := by
  have h1 : n ∈ T.nodes.map (·.1) := (List.mergeSort_perm _ _).mem_iff.1 h
  cases hg : T.get n with
  | none => exact absurd h1 (getA_none.1 hg)
  | some x => exact ⟨x, rfl⟩

theorem Nodes_spec (w : World) (u : PH) (hu : u.le w) (L : Lay) (T : PT) (hT : TM u L T) (hok : T.tells) :
    Spec Tryz.prog f_tree_Tree_Nodes [ptr (L .t)] PH.no w fun rs m' => ∃ v ts, rs = [.s v] ∧ SlR m' v 4 (ts.map gTreeNode) ∧ TsOk m' ts (nodesTold T) := by
  refine spec_of k_tree_Tree_Nodes [.g (.s (ptr (L .t)))] (by simp) (by simp [AV.ok, GV.ok, Value.oneCell', ptr]) ?_
  have hk : ∀ {l : List PH}, KN (⟨Tryz.prog, 38, w, PH.no⟩ : Ctx).u0 l u := kn_u hu
  have hkl : (nodesK T).length = T.nodes.length := by simp [nodesK, sortZ]
  have hfew := hok.few
  simp (maxSteps := 2000000) only [c_tree_Tree_Nodes, vc_seq, vc_rg, thenQ_n, kKeep_eq, segs_nil, segs_n, ops_nil, ops_cons, vcOp, ev, look, put_mk, keep_mk, keepL, Value.oneCell', cond_true, ↓reduceIte, reduceCtorEq, initF, initP, ptr]
  refine call_is _ [.s (.bool false)] rfl rfl (fun w' vs hv hw => ?_) ?_
  · obtain ⟨vs, rfl, _, hv⟩ := argsV_g hv
    obtain rfl := argsV_nil hv
    intro _
    exact none_spec (fun b o h => hw b o (by rw [u0_no]; exact hu b o h)) hT
  simp (maxSteps := 2000000) only [retS, vc_skip, vc_seq, vc_rg, vc_ite, thenQ_n, kKeep_eq, segs_nil, segs_n, ops_nil, ops_cons, vcOp, ev, look, put_mk, keep_mk, keepL, Value.oneCell', cond_true, ↓reduceIte, reduceCtorEq, ↓br_ft]
  refine gh_nil 3 3 49 4 (gTreeNode zTreeNode) rfl rfl ?_
  simp (maxSteps := 2000000) only [ops_cons, vcOp, ev, look, put_mk, ↓reduceIte, reduceCtorEq, Nat.add_zero]
  refine ld_of _ (hT.s_map hk) rfl ?_
  simp (maxSteps := 2000000) only [ops_cons, vcOp, put_mk]
  refine call_frzm rfl rfl (Q := KeysQ fKeysI1 (L .nb)) (fun w' vs hv hw _ _ => ?_) fun rs m1 _ hq => ?_
  · obtain ⟨vs, rfl, _, hv⟩ := argsV_g hv
    obtain rfl := argsV_nil hv
    exact keysI_spec w' (L .nb)
  obtain ⟨bm, e, rfl, hbm⟩ := hq
  simp (maxSteps := 2000000) only [retS, ops_cons, vcOp, put_mk]
  obtain ⟨o, idsV, h1, h2⟩ := hT.at .nb trivial
  have hkeys : (rawN L T.nodes).map keyI = T.nodes.map (·.1) := by simp [rawN, keyI, Function.comp_def]
  refine call_frzm rfl rfl (Q := fun rs m' => ∃ v, rs = [.s v] ∧ SlO m' v 2 1 ((nodesK T).map gi)) (fun w' vs hv hw hph _ => ?_) fun rs m2 _ hq => ?_
  · obtain ⟨vs, rfl, _, hv⟩ := argsV_g hv
    obtain rfl := argsV_nil hv
    have hm1 := hph m1 (by simp)
    have := sortedI_spec w' (L .nb) bm e (0, 0) o (rawN L T.nodes) w'.ph (fun _ _ h => h) (hm1 _ _ hbm) (hw _ _ (by rw [u0_no]; exact hu _ _ h1)) h2 (fun p hp => by
      obtain ⟨q, hq, rfl⟩ := List.mem_map.1 hp
      exact hok.keys q.1 q.2 (getA_of_mem hT.nod hq)) (by simp [rawN]; omega)
    rw [hkeys] at this
    exact this
  obtain ⟨v0, rfl, hv0⟩ := hq
  simp (maxSteps := 2000000) only [retS, ops_cons, vcOp, put_mk]
  refine gh_rk 14 14 (gi 0) rfl rfl hv0.toR (KN.mem (by simp)) ?_
  simp (maxSteps := 2000000) only [List.length_map, vc_block, thenQ_n, kKeep_eq, segs_nil, ops_nil, ops_cons, vcOp, ev, look, put_mk, keep_mk, keepL, Value.oneCell', cond_true, Nat.reduceEqDiff, ↓reduceIte, reduceCtorEq, List.length_map, List.length_map]
  refine vc_loop (ι := Nat × List TreeNode × PH) (fun q => ⟨[(0, .g (.s (.pointer (some ⟨L .t, 0, none⟩)))), (14, .row 14 0 ((nodesK T).length)), (15, .g (.s (.int .i64 ((nodesK T).length)))), (16, .g (.s (.int .i64 (q.1)))), (3, .row 3 0 (q.2.1.length))], [(14, .ro 1 (gi 0) ((nodesK T).map gi)), (3, .row 49 4 (gTreeNode zTreeNode) (q.2.1.map gTreeNode))], [m2, m1], q.2.2⟩)
    (fun q => q.1 ≤ (nodesK T).length ∧ q.2.1.length ≤ q.1 ∧ TsOk q.2.2 q.2.1 (toldL T ((nodesK T).take q.1))) (fun q => (nodesK T).length - q.1) (0, [], PH.no) ⟨by simp, by simp, trivial⟩ (ge_of ?_ ?_ rfl rfl rfl) ?_
  · simp [frIn, look]
  · simp [pvIn, look]
  rintro ⟨i, ts, mA⟩ ⟨hi, htl, hts⟩
  simp only at hi htl hts
  generalize hQ : loopQ _ _ _ _ _ = Q
  simp (maxSteps := 2000000) only [c_tree_Tree_Nodes_L0, getD_gi, vc_skip, vc_exit, vc_seq, vc_block, vc_rg, vc_ite, thenQ_n, thenQ_e, kKeep_eq, segs_nil, segs_n, ops_nil, ops_cons, vcOp, ev, look, put_mk, keep_mk, keepL, rowE, rowD, binV, binC, Nat.reduceEqDiff, ↓reduceIte, reduceCtorEq, Nat.zero_add, Bool.true_and, Bool.not_false, true_and, Int.toNat_natCast, decide_eq_true_eq, decide_eq_false_iff_not, br_t, getT_nil, getD_gi, fits_s, gTreeNode_zero]
  refine ⟨fun hlt => ⟨⟨by omega, by omega⟩, ?_⟩, fun hge => ?_⟩
  · obtain ⟨n, hn⟩ : ∃ n, (nodesK T).getD i 0 = n := ⟨_, rfl⟩
    have hmem : n ∈ nodesK T := by rw [← hn, List.getD_eq_getElem?_getD, List.getElem?_eq_getElem (by omega)]; exact List.getElem_mem _
    obtain ⟨x, hx⟩ := mem_nodesK hmem
    rw [hn]
    have hstep : toldL T ((nodesK T).take (i + 1)) = toldL T ((nodesK T).take i) ++ if (toldOf n x).shown = true then [toldOf n x] else [] := by
      rw [List.take_add_one]
      have e : (nodesK T)[i]?.toList = [n] := by
        rw [← hn, List.getD_eq_getElem?_getD, List.getElem?_eq_getElem (by omega)]; rfl
      rw [e]
      unfold toldL
      rw [List.filterMap_append, List.filter_append]
      congr 1
      simp only [List.filterMap_cons, hx, Option.map_some, List.filterMap_nil, List.filter_cons, List.filter_nil]
    refine call_ownm rfl rfl (Q := fun rs m' => ∃ v, rs = [gTreeNode ⟨n, x.parent, x.name, v⟩] ∧ SlO m' v 75 2 ((attrsOf x).map gAttr)) (fun w' vs hv hw _ _ => ?_) fun rs m3 _ hq hd3 => ?_
    · obtain ⟨vs, rfl, _, hv⟩ := argsV_g hv
      obtain ⟨vs, rfl, _, hv⟩ := argsV_g hv
      obtain rfl := argsV_nil hv
      exact told_spec w' u (fun b o h => hw b o (by rw [u0_no]; exact hu b o h)) L T hT n x hx (hok.small n x hx)
    obtain ⟨v, rfl, hv⟩ := hq
    obtain ⟨a, c, rfl⟩ : ∃ a c, v = .slice a (attrsOf x).length c := by
      rcases hv.2 with ⟨rfl, h3⟩ | ⟨ad, c, rfl, _⟩
      · have : attrsOf x = [] := by simpa using h3
        exact ⟨none, 0, by rw [this]; rfl⟩
      · exact ⟨some ad, c, by rw [List.length_map]⟩
    simp (maxSteps := 2000000) only [retS, vc_seq, vc_rg, thenQ_n, kKeep_eq, segs_nil, segs_n, ops_nil, ops_cons, vcOp, ev, look, updL, put_mk, put_mk0, keep_mk, keepL, Nat.reduceEqDiff, ↓reduceIte, reduceCtorEq, Bool.and_true, Bool.true_and, true_and, and_true, getT_nil, setT_nil, gTreeNode_sz, gTreeNode_same]
    refine call_fnv (top_fn n) rfl rfl rfl fun _ => ?_
    simp (maxSteps := 2000000) only [retS, vc_skip, vc_rg, vc_ite, thenQ_n, blockQ_n, kKeep_eq, segs_nil, segs_n, segs_g, ops_nil, ops_cons, vcOp, RO.isGh, skip_mk, skipL, ev, evL, gvL, look, updL, put_mk, keep_mk, keepL, rowE, binV, binC, unV, GV.getT, Value.oneCell', cond_true, cond_false, Nat.reduceEqDiff, Nat.reduceBEq, ↓reduceIte, reduceCtorEq, List.nil_append, Nat.zero_add, Bool.and_true, Bool.true_and, Bool.not_false, BEq.rfl, true_and, and_true, Option.map_some, szAll, List.length_cons, List.length_nil, decide_eq_true_eq, decide_eq_false_iff_not, kill, SV.mentions, ne_eq, not_false_eq_true, List.drop_zero, List.take_succ_cons, List.take_zero, ↓br_tt, ↓br_ft, br_t, br_f, getT_nil, List.length_map, fits_s, gTreeNode_sz, gTreeNode_fits, gTreeNode_fld3, gTreeNode_get3, List.length_map]
    have hup : TsOk (uni m3 mA) ts (toldL T ((nodesK T).take i)) := hts.up (sub_uni_r hd3)
    have hnew : TsOk (uni m3 mA) (ts ++ [⟨n, x.parent, x.name, .slice a (attrsOf x).length c⟩]) (toldL T ((nodesK T).take i) ++ [toldOf n x]) := hup.snoc ⟨rfl, rfl, rfl, hv.toR.up (sub_uni_l m3 mA)⟩
    have goS : (toldOf n x).shown = true → ∀ (fr : List (Nat × SV)) (pv : List (Nat × PV)), frIn fr [(0, .g (.s (.pointer (some ⟨L .t, 0, none⟩)))), (14, .row 14 0 ((nodesK T).length)), (15, .g (.s (.int .i64 ((nodesK T).length)))), (16, .g (.s (.int .i64 ((i + 1 : Nat))))), (3, .row 3 0 (ts.length + 1))] →
        pvIn pv [(14, .ro 1 (gi 0) ((nodesK T).map gi)), (3, .row 49 4 (gTreeNode zTreeNode) (ts.map gTreeNode ++ [gTreeNode ⟨n, x.parent, x.name, .slice a (attrsOf x).length c⟩]))] → Q .normal ⟨fr, pv, [m2, m1], uni m3 mA⟩ := by
      intro hs fr pv hfr hpv
      subst hQ; simp only [loopQ_n]
      refine ⟨(i + 1, ts ++ [⟨n, x.parent, x.name, .slice a (attrsOf x).length c⟩], uni m3 mA), ⟨by simp only; omega, by simp; omega, ?_⟩, ?_, ge_of ?_ ?_ rfl rfl rfl⟩
      · simp only; rw [hstep, if_pos hs]; exact hnew
      · simp only; omega
      · simpa using hfr
      · simpa using hpv
    have goN : (toldOf n x).shown = false → ∀ (fr : List (Nat × SV)) (pv : List (Nat × PV)), frIn fr [(0, .g (.s (.pointer (some ⟨L .t, 0, none⟩)))), (14, .row 14 0 ((nodesK T).length)), (15, .g (.s (.int .i64 ((nodesK T).length)))), (16, .g (.s (.int .i64 ((i + 1 : Nat))))), (3, .row 3 0 (ts.length))] →
        pvIn pv [(14, .ro 1 (gi 0) ((nodesK T).map gi)), (3, .row 49 4 (gTreeNode zTreeNode) (ts.map gTreeNode))] → Q .normal ⟨fr, pv, [m2, m1], uni m3 mA⟩ := by
      intro hs fr pv hfr hpv
      subst hQ; simp only [loopQ_n]
      refine ⟨(i + 1, ts, uni m3 mA), ⟨by simp only; omega, by simp only; omega, ?_⟩, ?_, ge_of hfr hpv rfl rfl rfl⟩
      · simp only; rw [hstep, hs]; simpa using hup
      · simp only; omega
    have hlA : (attrsOf x).length = (toldOf n x).attrs.length := rfl
    have hnn : n = (toldOf n x).node := rfl
    refine ⟨fun ht => ⟨fun hl => ⟨by omega, goS ?_ _ _ ?_ ?_⟩, fun hl => goN ?_ _ _ ?_ ?_⟩, fun ht => ⟨by omega, goS ?_ _ _ ?_ ?_⟩⟩
    · rw [TN.shown, topB, ← hnn, ← hlA, decide_eq_true (by omega)]; simp
    · simp only [frIn, look, Nat.reduceEqDiff, ↓reduceIte, reduceCtorEq, Bool.and_true, Bool.true_and, true_and, and_true]
      rw [wrap_n (by omega)]
      try simp
    · simp [pvIn, look]
    · rw [TN.shown, topB, ← hnn, ← hlA, ht, decide_eq_false (by omega)]; rfl
    · simp only [frIn, look, Nat.reduceEqDiff, ↓reduceIte, reduceCtorEq, Bool.and_true, Bool.true_and, true_and, and_true]
      rw [wrap_n (by omega)]
      try simp
    · simp [pvIn, look]
    · rw [TN.shown, topB, ← hnn, ht]; rfl
    · simp only [frIn, look, Nat.reduceEqDiff, ↓reduceIte, reduceCtorEq, Bool.and_true, Bool.true_and, true_and, and_true]
      rw [wrap_n (by omega)]
      try simp
    · simp [pvIn, look]
  · subst hQ
    simp (maxSteps := 2000000) only [vc_seq, vc_rg, thenQ_n, blockQ_e, loopQ_e, segs_n, ops_cons, vcOp, ev, look, put_mk, ↓reduceIte, reduceCtorEq]
    refine gh_pub 2 3 ts.length rfl rfl (by simp) fun v m5 hv5 ho5 hd5 => ?_
    simp (maxSteps := 2000000) only [vc_ret, thenQ_n, kKeep_eq, finQ_r, segs_nil, ops_nil, look, keep_mk, keepL, cond_true, cond_false, Nat.reduceBEq, ↓reduceIte, BEq.rfl, kill, SV.mentions]
    have hfull : (nodesK T).take i = nodesK T := List.take_of_length_le (by omega)
    rw [hfull] at hts
    exact fin_m (rs := [.s v]) _ rfl (fun _ _ h => h) ⟨v, ts, rfl, ho5.toR.up (sub_uni_l _ _), hts.up (sub_uni_r hd5)⟩
end Go.Proofs.YtmjiojflncffeaaGreat.Vc

/- Are two lists of nodes the same? -/
set_option linter.unusedVariables false
set_option linter.unusedSimpArgs false
set_option maxRecDepth 100000
namespace Go.Proofs.YtmjiojflncffeaaGreat.Vc
open Go Go.Proofs

deriving instance DecidableEq for Attr, TN

theorem gAttr_kin (a : Attr) : kin (gAttr a) (gAttr zAttr) := ⟨trivial, trivial, trivial⟩
theorem eqGV_attr (a b : Attr) : eqGV (gAttr a) (gAttr b) = decide (a = b) := by
  obtain ⟨k1, v1⟩ := a
  obtain ⟨k2, v2⟩ := b
  simp only [eqGV, gAttr, eqScB, Bool.and_true]
  by_cases h1 : k1 = k2
  · by_cases h2 : v1 = v2
    · simp [h1, h2]
    · simp [h1, h2]
  · simp [h1]
theorem eqG_attr (a b : Attr) : EqG Tryz.prog 75 (gAttr a) (gAttr b) (decide (a = b)) := by
  rw [← eqGV_attr]
  exact eqG_of (z := gAttr zAttr) (by kernel_rfl) (by kernel_rfl) rfl (gAttr_kin a) (gAttr_kin b) (gAttr_ok a) (gAttr_ok b)

def zTN : TN := ⟨0, 0, ⟨#[]⟩, []⟩
theorem TsOk.at {m : PH} : ∀ {ts : List TreeNode} {l : List TN} (i : Nat), TsOk m ts l → i < ts.length → (ts.getD i zTreeNode).node = (l.getD i zTN).node ∧ (ts.getD i zTreeNode).parent = (l.getD i zTN).parent ∧ (ts.getD i zTreeNode).name = (l.getD i zTN).name ∧ SlR m (ts.getD i zTreeNode).attrs 2 ((l.getD i zTN).attrs.map gAttr)
  | _ :: _, _ :: _, 0, h, _ => h.1
  | _ :: ts, _ :: l, i + 1, h, hi => by simpa using TsOk.at (ts := ts) (l := l) i h.2 (by simpa using hi)
  | [], [], i, _, hi => by simp at hi
  | [], _ :: _, _, h, _ => h.elim
  | _ :: _, [], _, h, _ => h.elim

end Go.Proofs.YtmjiojflncffeaaGreat.Vc

/- What is done is taken back: plain. -/
set_option linter.unusedVariables false
set_option linter.unusedSimpArgs false
namespace Go.Proofs.YtmjiojflncffeaaGreat.Vc
open Go

theorem getS_put (y : ByteArray) : ∀ (l : List (ByteArray × ByteArray)) (k j : ByteArray), getS (putS l k y) j = if j = k then some y else getS l j
  | [], k, j => by
    by_cases h : k = j
    · subst h; simp [getS, putS]
    · simp [getS, putS, h, Ne.symm h]
  | (a, b) :: l, k, j => by
    by_cases h1 : a = k
    · subst h1
      by_cases h2 : a = j
      · subst h2; simp [getS, putS]
      · simp [getS, putS, h2, Ne.symm h2]
    · by_cases h2 : a = j
      · subst h2; simp [getS, putS, h1]
      · simp [getS, putS, h1, h2, getS_put y l k j]
theorem getS_none {l : List (ByteArray × ByteArray)} {j : ByteArray} : getS l j = none ↔ j ∉ l.map (·.1) := by
  induction l with
  | nil => simp [getS]
  | cons p l ih =>
    obtain ⟨k, x⟩ := p
    by_cases hk : k = j
    · simp [getS, hk]
    · simp only [getS, hk, if_false, List.map_cons, List.mem_cons, not_or, ih]
      exact ⟨fun h => ⟨fun e => hk e.symm, h⟩, fun h => h.2⟩
theorem getS_del {l : List (ByteArray × ByteArray)} (hn : (l.map (·.1)).Nodup) (k j : ByteArray) : getS (delS l k) j = if j = k then none else getS l j := by
  induction l with
  | nil => simp [getS, delS]
  | cons p l ih =>
    obtain ⟨a, y⟩ := p
    simp only [List.map_cons, List.nodup_cons] at hn
    by_cases h1 : a = k
    · subst h1
      by_cases h2 : j = a
      · subst h2; simp only [delS, if_true]; exact getS_none.2 hn.1
      · simp [delS, getS, h2, Ne.symm h2]
    · by_cases h2 : a = j
      · subst h2; simp [delS, getS, h1]
      · simp [delS, getS, h1, h2, ih hn.2]
theorem keys_delS : ∀ (l : List (ByteArray × ByteArray)) (n : ByteArray), ((delS l n).map (·.1)).Sublist (l.map (·.1))
  | [], n => List.Sublist.refl _
  | (k, x) :: l, n => by
    by_cases h1 : k = n
    · rw [delS, if_pos h1]; exact List.sublist_cons_self _ _
    · rw [delS, if_neg h1]; exact (keys_delS l n).cons_cons _
theorem mem_putS (y : ByteArray) : ∀ (l : List (ByteArray × ByteArray)) (n j : ByteArray), j ∈ (putS l n y).map (·.1) ↔ j = n ∨ j ∈ l.map (·.1)
  | [], n, j => by simp [putS]
  | (k, x) :: l, n, j => by
    by_cases h1 : k = n
    · subst h1; simp [putS]
    · have ih := mem_putS y l n j
      rw [putS, if_neg h1, List.map_cons, List.mem_cons, ih, List.map_cons, List.mem_cons]
      constructor
      · rintro (h | h | h)
        · exact .inr (.inl h)
        · exact .inl h
        · exact .inr (.inr h)
      · rintro (h | h | h)
        · exact .inr (.inl h)
        · exact .inl h
        · exact .inr (.inr h)
theorem nod_putS (y : ByteArray) : ∀ (l : List (ByteArray × ByteArray)) (n : ByteArray), (l.map (·.1)).Nodup → ((putS l n y).map (·.1)).Nodup
  | [], n, _ => by simp [putS]
  | (k, x) :: l, n, h => by
    rw [List.map_cons, List.nodup_cons] at h
    by_cases h1 : k = n
    · subst h1; rw [putS, if_pos rfl, List.map_cons, List.nodup_cons]; exact h
    · rw [putS, if_neg h1, List.map_cons, List.nodup_cons]
      refine ⟨fun hm => ?_, nod_putS y l n h.2⟩
      rcases (mem_putS y l n k).1 hm with h2 | h2
      · exact h1 h2
      · exact h.1 h2
theorem len_putS (y : ByteArray) : ∀ (l : List (ByteArray × ByteArray)) (n : ByteArray), (putS l n y).length ≤ l.length + 1
  | [], n => by simp [putS]
  | (k, x) :: l, n => by
    by_cases h1 : k = n
    · simp [putS, h1]
    · have := len_putS y l n
      simp only [putS, h1, if_false, List.length_cons]; omega

def empty : ByteArray := ⟨#[]⟩
/-- Attributes as they may be. -/
structure AttrOk (l : List (ByteArray × ByteArray)) : Prop where
  nod : (l.map (·.1)).Nodup
  val : ∀ k v, getS l k = some v → v ≠ empty
  key : ∀ k ∈ l.map (·.1), k.size ≤ 255
theorem AttrOk.nil : AttrOk [] := ⟨by simp, fun k v h => by simp [getS] at h, by simp⟩
def setS (l : List (ByteArray × ByteArray)) (k v : ByteArray) : List (ByteArray × ByteArray) := if v = ⟨#[]⟩ then delS l k else putS l k v
theorem getS_set {l : List (ByteArray × ByteArray)} (h : AttrOk l) (k v j : ByteArray) : getS (setS l k v) j = if j = k then (if v = empty then none else some v) else getS l j := by
  unfold setS
  by_cases hv : v = ⟨#[]⟩
  · rw [if_pos hv, getS_del h.nod, if_pos (show v = empty from hv)]
  · rw [if_neg hv, getS_put, if_neg (show ¬ v = empty from hv)]
theorem AttrOk.set {l : List (ByteArray × ByteArray)} (h : AttrOk l) {k v : ByteArray} (hk : k.size ≤ 255) : AttrOk (setS l k v) := by
  refine ⟨?_, fun j w hw => ?_, fun j hj => ?_⟩
  · unfold setS
    split
    · exact (keys_delS l k).nodup h.nod
    · exact nod_putS v l k h.nod
  · rw [getS_set h] at hw
    split at hw
    · split at hw
      · cases hw
      · rename_i hv; cases hw; exact hv
    · exact h.val j w hw
  · unfold setS at hj
    split at hj
    · exact h.key j ((keys_delS l k).subset hj)
    · rcases (mem_putS v l k j).1 hj with h1 | h1
      · subst h1; exact hk
      · exact h.key j h1
theorem len_set (l : List (ByteArray × ByteArray)) (k v : ByteArray) : (setS l k v).length ≤ l.length + 1 := by
  unfold setS
  split
  · have := (keys_delS l k).length_le
    simp at this; omega
  · exact len_putS v l k

/-- What is seen of a tree. -/
structure AN where
  parent : Int
  name : ByteArray
  attr : ByteArray → Option ByteArray
def PN.view (x : PN) : AN := ⟨x.parent, x.name, getS x.attrs⟩
def PT.view (T : PT) (n : Int) : Option AN := (T.get n).map PN.view

structure PT.ok (T : PT) (k : Nat) : Prop where
  nod : (T.nodes.map (·.1)).Nodup
  many : T.nodes.length ≤ k + 2
  last0 : 0 ≤ T.last
  lastk : T.last ≤ k
  ids : T.ids.length ≤ k
  keys : ∀ n x, T.get n = some x → (Lit.int .i64 n).wf = true
  attrs : ∀ n x, T.get n = some x → AttrOk x.attrs ∧ x.attrs.length ≤ k
theorem PT.ok.up {T : PT} {k k' : Nat} (h : T.ok k) (hk : k ≤ k') : T.ok k' :=
  ⟨h.nod, by have := h.many; omega, h.last0, by have := h.lastk; omega, by have := h.ids; omega, h.keys, fun n x hx => ⟨(h.attrs n x hx).1, by have := (h.attrs n x hx).2; omega⟩⟩

theorem view_mod {T : PT} {n : Int} {f : PN → PN} (hf : ∀ x, (f x).view = x.view) : (T.mod n f).view = T.view := by
  funext j
  unfold PT.view
  rw [PT.get_mod]
  split
  · cases T.get j <;> simp [hf]
  · rfl
theorem ok_mod {T : PT} {n : Int} {f : PN → PN} {k k' : Nat} (h : T.ok k) (hk : k ≤ k') (hf : ∀ x, AttrOk x.attrs ∧ x.attrs.length ≤ k → AttrOk (f x).attrs ∧ (f x).attrs.length ≤ k') : (T.mod n f).ok k' := by
  have hlen : (T.mod n f).nodes.length = T.nodes.length := by
    have := congrArg List.length (keys_mod f T.nodes n)
    simpa [PT.mod] using this
  refine ⟨by rw [PT.mod, keys_mod]; exact h.nod, by rw [hlen]; have := h.many; omega, h.last0, by have := h.lastk; show T.last ≤ _; omega, by have := h.ids; show T.ids.length ≤ _; omega, fun j x hx => ?_, fun j x hx => ?_⟩
  · rw [PT.get_mod] at hx
    split at hx
    · cases hg : T.get j with
      | none => rw [hg] at hx; cases hx
      | some y => exact h.keys j y hg
    · exact h.keys j x hx
  · rw [PT.get_mod] at hx
    split at hx
    · cases hg : T.get j with
      | none => rw [hg] at hx; cases hx
      | some y =>
        rw [hg] at hx; cases hx
        exact hf y (h.attrs j y hg)
    · obtain ⟨h1, h2⟩ := h.attrs j x hx
      exact ⟨h1, by omega⟩
end Go.Proofs.YtmjiojflncffeaaGreat.Vc

/- What is done is taken back: plain, the steps. -/
set_option linter.unusedVariables false
set_option linter.unusedSimpArgs false
namespace Go.Proofs.YtmjiojflncffeaaGreat.Vc
open Go

def updV (v : Int → Option AN) (n : Int) (a : Option AN) : Int → Option AN := fun j => if j = n then a else v j
theorem updV_updV (v : Int → Option AN) (n : Int) (a b : Option AN) : updV (updV v n a) n b = updV v n b := by
  funext j; unfold updV; split <;> rfl
theorem updV_self {v : Int → Option AN} {n : Int} {a : Option AN} (h : v n = a) : updV v n a = v := by
  funext j; unfold updV
  split
  · rename_i e; rw [e, h]
  · rfl

theorem PT.view_get {T : PT} {n : Int} {x : PN} (h : T.get n = some x) : T.view n = some x.view := by unfold PT.view; rw [h]; rfl
theorem PT.view_none {T : PT} {n : Int} : T.view n = none ↔ T.get n = none := by
  unfold PT.view; cases T.get n <;> simp
theorem get_of_view {T : PT} {n : Int} {a : AN} (h : T.view n = some a) : ∃ x, T.get n = some x ∧ x.view = a := by
  unfold PT.view at h
  cases hg : T.get n with
  | none => rw [hg] at h; cases h
  | some x => rw [hg] at h; exact ⟨x, rfl, by simpa using h⟩

/-! ### put -/
theorem put_view {T : PT} {n : Int} {p : Place} {x : PN} (hx : T.get n = some x) : (T.put n p).view = updV T.view n (some ⟨p.parent, p.name, getS x.attrs⟩) := by
  unfold PT.put
  rw [hx]
  simp only
  rw [show (((T.unkid x.parent n).place n p.parent p.name).kid p.parent n).view = ((T.unkid x.parent n).place n p.parent p.name).view from view_mod fun _ => rfl]
  funext j
  unfold updV
  by_cases hj : j = n
  · subst hj
    obtain ⟨x1, hx1, he⟩ : ∃ x1, (T.unkid x.parent j).get j = some x1 ∧ x1.attrs = x.attrs := by
      rw [get_unkid, hx]
      split <;> exact ⟨_, rfl, rfl⟩
    have h1 : ((T.unkid x.parent j).place j p.parent p.name).get j = some { x1 with parent := p.parent, name := p.name } := by rw [get_place, if_pos rfl, hx1]; rfl
    rw [PT.view_get h1, if_pos rfl]
    simp [PN.view, he]
  · rw [if_neg hj]
    have h1 : ((T.unkid x.parent n).place n p.parent p.name).get j = (T.unkid x.parent n).get j := by rw [get_place, if_neg hj]
    have h2 : (T.unkid x.parent n).view = T.view := view_mod fun _ => rfl
    rw [← h2]
    unfold PT.view
    rw [h1]
theorem put_ok {T : PT} {n : Int} {p : Place} {k : Nat} (h : T.ok k) : (T.put n p).ok k := by
  unfold PT.put
  cases T.get n with
  | none => exact h
  | some x => exact ok_mod (ok_mod (ok_mod h (Nat.le_refl _) fun x hx => hx) (Nat.le_refl _) fun x hx => hx) (Nat.le_refl _) fun x hx => hx
theorem put_last (T : PT) (n : Int) (p : Place) : (T.put n p).last = T.last := by
  unfold PT.put
  cases T.get n <;> rfl
/-! ### add, del, attr -/
theorem add_view {T : PT} {n : Int} (hn : T.get n = none) : (T.add n).view = updV T.view n (some PN.bare.view) := by
  funext j
  unfold updV PT.view
  rw [PT.get_add hn]
  split <;> rfl
theorem add_ok {T : PT} {n : Int} {k : Nat} (h : T.ok k) (hn : T.get n = none) (hw : (Lit.int .i64 n).wf = true) : (T.add n).ok (k + 1) := by
  refine ⟨?_, by have := h.many; simp [PT.add]; omega, h.last0, by have := h.lastk; show T.last ≤ _; omega, by have := h.ids; show T.ids.length ≤ _; omega, fun j x hx => ?_, fun j x hx => ?_⟩
  · show ((T.nodes ++ [(n, PN.bare)]).map (·.1)).Nodup
    rw [List.map_append, List.nodup_append]
    refine ⟨h.nod, by simp, fun x hx y hy => ?_⟩
    simp only [List.map_cons, List.map_nil, List.mem_singleton] at hy
    subst hy
    exact fun e => (getA_none.1 hn) (e ▸ hx)
  · rw [PT.get_add hn] at hx
    split at hx
    · rename_i e; rw [e]; exact hw
    · exact h.keys j x hx
  · rw [PT.get_add hn] at hx
    split at hx
    · cases hx; exact ⟨AttrOk.nil, by simp [PN.bare]⟩
    · obtain ⟨h1, h2⟩ := h.attrs j x hx
      exact ⟨h1, by omega⟩
theorem get_del {T : PT} (hn : (T.nodes.map (·.1)).Nodup) (n j : Int) : (T.del n).get j = if j = n then none else T.get j := getA_del hn n j
theorem del_view {T : PT} {n : Int} (hn : (T.nodes.map (·.1)).Nodup) : (T.del n).view = updV T.view n none := by
  funext j
  unfold updV PT.view
  rw [get_del hn]
  split <;> rfl
theorem del_ok {T : PT} {n : Int} {k : Nat} (h : T.ok k) : (T.del n).ok k := by
  have hl : (T.del n).nodes.length ≤ T.nodes.length := by
    have := congrArg List.length (keys_del T.nodes n)
    have h2 := List.length_erase_le (a := n) (l := T.nodes.map (·.1))
    simp only [List.length_map] at this h2
    show (delA T.nodes n).length ≤ _
    omega
  refine ⟨by show ((delA T.nodes n).map (·.1)).Nodup; rw [keys_del]; exact h.nod.erase _, by have := h.many; omega, h.last0, h.lastk, h.ids, fun j x hx => ?_, fun j x hx => ?_⟩
  · rw [get_del h.nod] at hx
    split at hx
    · cases hx
    · exact h.keys j x hx
  · rw [get_del h.nod] at hx
    split at hx
    · cases hx
    · exact h.attrs j x hx
theorem attr_view {T : PT} {n : Int} {key value : ByteArray} {x : PN} (hx : T.get n = some x) (ha : AttrOk x.attrs) : (T.attr n key value).view = updV T.view n (some ⟨x.parent, x.name, fun j => if j = key then (if value = empty then none else some value) else getS x.attrs j⟩) := by
  funext j
  unfold updV PT.view
  rw [PT.attr, PT.get_mod]
  split
  · rename_i e
    rw [e, hx]
    simp only [Option.map_some, PN.view, Option.some.injEq, AN.mk.injEq, true_and]
    funext i
    exact getS_set ha key value i
  · rfl
theorem attr_ok {T : PT} {n : Int} {key value : ByteArray} {k : Nat} (h : T.ok k) (hk : key.size ≤ 255) : (T.attr n key value).ok (k + 1) :=
  ok_mod h (by omega) fun x ⟨h1, h2⟩ => ⟨h1.set (k := key) (v := value) hk, by have := len_set x.attrs key value; show (setS x.attrs key value).length ≤ _; omega⟩
end Go.Proofs.YtmjiojflncffeaaGreat.Vc

/- What is done is taken back: plain, the whole. -/
set_option linter.unusedVariables false
set_option linter.unusedSimpArgs false
namespace Go.Proofs.YtmjiojflncffeaaGreat.Vc
open Go

theorem may_make {T : PT} {op : Op} (h : mayA T op = true) (k : op.kind = 1) : T.get op.node = none ∧ ∃ x, T.get op.parent = some x := by
  rw [mayA, if_pos k] at h
  simp only [Bool.and_eq_true, Bool.not_eq_true', PT.has] at h
  exact ⟨Option.isNone_iff_eq_none.1 (by rw [← Option.not_isSome, h.1.1.2]; rfl), Option.isSome_iff_exists.1 h.1.2⟩
theorem may_there {T : PT} {op : Op} (h : mayA T op = true) (k : op.kind ≠ 1) : ∃ x, T.get op.node = some x := by
  rw [mayA, if_neg k] at h
  split at h
  · simp only [Bool.and_eq_true, PT.has] at h
    exact Option.isSome_iff_exists.1 h.1.1.1.1
  · split at h
    · simp only [Bool.and_eq_true, PT.has] at h
      exact Option.isSome_iff_exists.1 h.1
    · cases h
theorem may_key {T : PT} {op : Op} (h : mayA T op = true) (k : op.kind ≠ 1) (k2 : op.kind ≠ 2) : op.key.size ≤ 255 := by
  rw [mayA, if_neg k, if_neg k2] at h
  split at h
  · simp only [Bool.and_eq_true, pairB, decide_eq_true_eq] at h
    exact h.2.1.2
  · cases h

theorem does_ids (T : PT) (op : Op) : (T.does op).ids = T.ids ++ [T.last + 1] := rfl
theorem acts_last (T : PT) (op : Op) : (T.acts op).last = T.last := by
  unfold PT.acts
  split
  · rw [put_last]; rfl
  · split
    · rw [put_last]
    · rfl
theorem does_last (T : PT) (op : Op) : (T.does op).last = T.last + 1 := by
  show (({ T with last := T.last + 1 } : PT).acts op).last = _
  rw [acts_last]
theorem does_view1 {T : PT} {op : Op} (h : mayA T op = true) (k : op.kind = 1) : (T.does op).view = updV T.view op.node (some ⟨op.parent, op.name, fun _ => none⟩) := by
  have hn := (may_make h k).1
  have h1 : (({ T with last := T.last + 1 } : PT).add op.node).get op.node = some PN.bare := by rw [PT.get_add (T := { T with last := T.last + 1 }) hn, if_pos rfl]
  show (({ T with last := T.last + 1 } : PT).acts op).view = _
  rw [PT.acts, if_pos k, put_view h1, add_view (T := { T with last := T.last + 1 }) hn, updV_updV]
  rfl
theorem does_view2 {T : PT} {op : Op} {x : PN} (hx : T.get op.node = some x) (k : op.kind = 2) : (T.does op).view = updV T.view op.node (some ⟨op.parent, op.name, getS x.attrs⟩) := by
  show (({ T with last := T.last + 1 } : PT).acts op).view = _
  rw [PT.acts, if_neg (by omega), if_pos k]
  exact put_view (T := { T with last := T.last + 1 }) hx
theorem does_view3 {T : PT} {op : Op} {x : PN} (hx : T.get op.node = some x) (ha : AttrOk x.attrs) (k : op.kind ≠ 1) (k2 : op.kind ≠ 2) : (T.does op).view = updV T.view op.node (some ⟨x.parent, x.name, fun j => if j = op.key then (if op.value = empty then none else some op.value) else getS x.attrs j⟩) := by
  show (({ T with last := T.last + 1 } : PT).acts op).view = _
  rw [PT.acts, if_neg k, if_neg k2]
  exact attr_view (T := { T with last := T.last + 1 }) hx ha
theorem acts_ok {T : PT} {op : Op} {k : Nat} (h : T.ok k) (hm : mayA T op = true) (hw : (Lit.int .i64 op.node).wf = true) : (T.acts op).ok (k + 1) := by
  unfold PT.acts
  split
  · rename_i k1; exact put_ok (add_ok h (may_make hm k1).1 hw)
  · split
    · exact (put_ok h).up (by omega)
    · rename_i k1 k2; exact attr_ok h (may_key hm k1 k2)
theorem does_ok {T : PT} {op : Op} {k : Nat} (h : T.ok k) (hm : mayA T op = true) (hw : (Lit.int .i64 op.node).wf = true) : (T.does op).ok (k + 1) := by
  have h0 : ({ T with last := T.last + 1 } : PT).acts op = { T.acts op with last := T.last + 1 } := by
    unfold PT.acts PT.put
    split
    · show (match (T.add op.node).get op.node with | _ => _) = _
      have e : (({ T with last := T.last + 1 } : PT).add op.node).get op.node = (T.add op.node).get op.node := rfl
      rw [e]
      cases (T.add op.node).get op.node <;> rfl
    · split
      · have e : (({ T with last := T.last + 1 } : PT)).get op.node = T.get op.node := rfl
        rw [e]
        cases T.get op.node <;> rfl
      · rfl
  obtain ⟨h1, h2, h3, h4, h5, h6, h7⟩ := acts_ok h hm hw
  have hl := h.lastk
  have hl0 := h.last0
  have hi := h.ids
  unfold PT.does
  rw [h0]
  exact ⟨h1, h2, by show 0 ≤ T.last + 1; omega, by show T.last + 1 ≤ ((k + 1 : Nat) : Int); omega, by show (T.ids ++ [T.last + 1]).length ≤ _; simp; omega, h6, h7⟩

theorem undo_does {T B : PT} {op : Op} {mk : Value} {k k' : Nat} (hm : mayA T op = true) (hT : T.ok k) (hB : B.ok k') (hv : B.view = (T.does op).view) : (B.undone (T.undo mk op)).view = T.view ∧ (B.undone (T.undo mk op)).ok (k' + 1) := by
  have hB1 : ({ B with ids := B.ids.dropLast } : PT).ok k' := ⟨hB.nod, hB.many, hB.last0, hB.lastk, by have := hB.ids; simp; omega, hB.keys, hB.attrs⟩
  by_cases k1 : op.kind = 1
  · obtain ⟨hn, x, hx⟩ := may_make hm k1
    have hu : T.undo mk op = ⟨mk, T.last + 1, op, zPlace, ⟨#[]⟩⟩ := by rw [PT.undo, hn]
    have h1 : (({ B with ids := B.ids.dropLast } : PT).unkid op.parent op.node).ok k' := ok_mod hB1 (Nat.le_refl _) fun x hx => hx
    have h2 : (({ B with ids := B.ids.dropLast } : PT).unkid op.parent op.node).view = B.view := view_mod (T := { B with ids := B.ids.dropLast }) fun _ => rfl
    rw [hu, PT.undone]
    simp only
    rw [if_pos k1]
    refine ⟨?_, (del_ok h1).up (by omega)⟩
    rw [del_view h1.nod, h2, hv, does_view1 hm k1, updV_updV]
    exact updV_self (PT.view_none.2 hn)
  · obtain ⟨x, hx⟩ := may_there hm k1
    by_cases k2 : op.kind = 2
    · have hu : T.undo mk op = ⟨mk, T.last + 1, op, ⟨x.parent, x.name⟩, ⟨#[]⟩⟩ := by rw [PT.undo, hx]; simp only; rw [if_neg k1, if_pos k2]
      have hd := does_view2 hx k2
      have hbv : B.view op.node = some ⟨op.parent, op.name, getS x.attrs⟩ := by rw [hv, hd]; simp [updV]
      obtain ⟨xb, hxb, he⟩ := get_of_view hbv
      rw [hu, PT.undone]
      simp only
      rw [if_neg k1, if_pos k2]
      refine ⟨?_, (put_ok hB1).up (by omega)⟩
      rw [put_view (T := { B with ids := B.ids.dropLast }) hxb]
      show updV B.view op.node _ = _
      have ha : getS xb.attrs = getS x.attrs := congrArg AN.attr he
      rw [hv, hd, updV_updV, ha]
      exact updV_self (PT.view_get hx)
    · have hu : T.undo mk op = ⟨mk, T.last + 1, op, zPlace, (getS x.attrs op.key).getD ⟨#[]⟩⟩ := by rw [PT.undo, hx]; simp only; rw [if_neg k1, if_neg k2]
      obtain ⟨hax, _⟩ := hT.attrs _ _ hx
      have hd := does_view3 hx hax k1 k2
      have hbv : B.view op.node = some ⟨x.parent, x.name, fun j => if j = op.key then (if op.value = empty then none else some op.value) else getS x.attrs j⟩ := by rw [hv, hd]; simp [updV]
      obtain ⟨xb, hxb, he⟩ := get_of_view hbv
      obtain ⟨hab, _⟩ := hB.attrs _ _ hxb
      rw [hu, PT.undone]
      simp only
      rw [if_neg k1, if_neg k2]
      refine ⟨?_, attr_ok hB1 (may_key hm k1 k2)⟩
      rw [attr_view (T := { B with ids := B.ids.dropLast }) hxb hab]
      show updV B.view op.node _ = _
      rw [hv, hd, updV_updV]
      refine updV_self ?_
      rw [PT.view_get hx]
      have e1 : xb.parent = x.parent := congrArg AN.parent he
      have e2 : xb.name = x.name := congrArg AN.name he
      have e3 : getS xb.attrs = fun j => if j = op.key then (if op.value = empty then none else some op.value) else getS x.attrs j := congrArg AN.attr he
      rw [e1, e2]
      congr 1
      show AN.mk x.parent x.name (getS x.attrs) = _
      congr 1
      funext j
      by_cases hj : j = op.key
      · subst hj
        rw [if_pos rfl]
        cases hg : getS x.attrs op.key with
        | none => rfl
        | some v =>
          have := hax.val _ _ hg
          rw [Option.getD_some, if_neg this]
      · rw [if_neg hj, e3]; simp [hj]
end Go.Proofs.YtmjiojflncffeaaGreat.Vc

/- What is told hangs on what is seen; a history. -/
set_option linter.unusedVariables false
set_option linter.unusedSimpArgs false
namespace Go.Proofs.YtmjiojflncffeaaGreat.Vc
open Go

theorem keys_perm {a b : List (ByteArray × ByteArray)} (ha : AttrOk a) (hb : AttrOk b) (h : getS a = getS b) : (a.map (·.1)).Perm (b.map (·.1)) := by
  rw [List.perm_ext_iff_of_nodup ha.nod hb.nod]
  intro k
  have h1 := getS_none (l := a) (j := k)
  have h2 := getS_none (l := b) (j := k)
  rw [h] at h1
  constructor
  · intro hk
    refine Classical.byContradiction fun hc => ?_
    exact (h1.1 (h2.2 hc)) hk
  · intro hk
    refine Classical.byContradiction fun hc => ?_
    exact (h2.1 (h1.2 hc)) hk
theorem attrsOf_eq {x y : PN} (hx : AttrOk x.attrs) (hy : AttrOk y.attrs) (h : getS x.attrs = getS y.attrs) : attrsOf x = attrsOf y := by
  have hp := (keys_perm hx hy h).map fun b : ByteArray => b.data.toList
  have hk : attrKeys x = attrKeys y := by
    have := mergeSort_of_perm hp
    simpa [attrKeys, sortB, List.map_map, Function.comp_def] using this
  rw [attrsOf, attrsOf, hk, h]
theorem told_eq {T T' : PT} {k k' : Nat} (h : T.ok k) (h' : T'.ok k') (hv : T.view = T'.view) : nodesTold T = nodesTold T' ∧ T.nodes.length = T'.nodes.length := by
  have hp : (T.nodes.map (·.1)).Perm (T'.nodes.map (·.1)) := by
    rw [List.perm_ext_iff_of_nodup h.nod h'.nod]
    intro n
    have e : T.get n = none ↔ T'.get n = none := by rw [← PT.view_none, ← PT.view_none, hv]
    have h1 : T.get n = none ↔ n ∉ T.nodes.map (·.1) := getA_none
    have h2 : T'.get n = none ↔ n ∉ T'.nodes.map (·.1) := getA_none
    constructor
    · intro hk
      refine Classical.byContradiction fun hc => ?_
      exact (h1.1 (e.2 (h2.2 hc))) hk
    · intro hk
      refine Classical.byContradiction fun hc => ?_
      exact (h2.1 (e.1 (h1.2 hc))) hk
  have hk : nodesK T = nodesK T' := mergeSort_of_perm_i hp
  refine ⟨?_, by simpa using hp.length_eq⟩
  have hf : (fun n => (T.get n).map fun x => toldOf n x) = fun n => (T'.get n).map fun x => toldOf n x := by
    funext n
    cases hg : T.get n with
    | none =>
      have : T'.get n = none := by rw [← PT.view_none, ← hv, PT.view_none]; exact hg
      rw [this]
    | some x =>
      obtain ⟨y, hy, he⟩ := get_of_view (T := T') (n := n) (a := x.view) (by rw [← hv]; exact PT.view_get hg)
      rw [hy]
      simp only [Option.map_some, Option.some.injEq]
      have e1 : y.parent = x.parent := congrArg AN.parent he
      have e2 : y.name = x.name := congrArg AN.name he
      have e3 : getS y.attrs = getS x.attrs := congrArg AN.attr he
      rw [toldOf, toldOf, e1, e2, attrsOf_eq (h.attrs _ _ hg).1 (h'.attrs _ _ hy).1 e3.symm]
  rw [nodesTold, nodesTold, hk, toldL, toldL, hf]

/-- A tree that may be told, by its measure. -/
theorem ok_tells {T : PT} {k : Nat} (h : T.ok k) (hk : k ≤ 1099511627776) : T.tells := by
  refine ⟨by have := h.many; omega, h.keys, fun n x hx => ?_⟩
  obtain ⟨h1, h2⟩ := h.attrs n x hx
  exact ⟨by omega, fun p hp => by have := h1.key p.1 (List.mem_map.2 ⟨p, hp, rfl⟩); omega⟩
theorem ok_fits {T : PT} {k : Nat} (h : T.ok k) (hk : k < 1099511627776) : T.fits := ⟨by have := h.many; omega, h.last0, by have := h.lastk; omega, by have := h.ids; omega⟩
theorem T0_ok : T0.ok 0 := by
  refine ⟨by decide, by decide, by decide, by decide, by decide, fun n x hx => ?_, fun n x hx => ?_⟩
  · have : n = 1 ∨ n = 2 := by
      have hm : n ∈ T0.nodes.map (·.1) := Classical.byContradiction fun hc => by
        have : T0.get n = none := getA_none.2 hc
        rw [this] at hx; cases hx
      simpa [T0] using hm
    rcases this with rfl | rfl <;> decide
  · have := getA_mem hx
    simp only [T0, List.mem_cons, List.not_mem_nil, or_false, Prod.mk.injEq] at this
    rcases this with ⟨_, rfl⟩ | ⟨_, rfl⟩ <;> exact ⟨AttrOk.nil, by simp [PN.bare]⟩

/-- What was done to a tree, from one that was. -/
inductive Hist (mk : Value) (T0 : PT) : List Undo → PT → Prop
  | nil : Hist mk T0 [] T0
  | snoc {us : List Undo} {T : PT} {op : Op} : Hist mk T0 us T → mayA T op = true → (∃ k, T.ok k) → Hist mk T0 (us ++ [T.undo mk op]) (T.does op)
theorem undo_ix (T : PT) (mk : Value) (op : Op) : (T.undo mk op).ix = T.last + 1 := by
  unfold PT.undo
  split
  · rfl
  · split
    · rfl
    · split <;> rfl
theorem undo_of (T : PT) (mk : Value) (op : Op) : (T.undo mk op).of = mk := by
  unfold PT.undo
  split
  · rfl
  · split
    · rfl
    · split <;> rfl
theorem undo_op (T : PT) (mk : Value) (op : Op) : (T.undo mk op).op = op := by
  unfold PT.undo
  split
  · rfl
  · split
    · rfl
    · split <;> rfl
theorem Hist.last {mk : Value} {T0 T : PT} {us : List Undo} {u : Undo} (h : Hist mk T0 (us ++ [u]) T) : ∃ T' op, Hist mk T0 us T' ∧ mayA T' op = true ∧ (∃ k, T'.ok k) ∧ u = T'.undo mk op ∧ T = T'.does op := by
  generalize hl : us ++ [u] = l at h
  cases h with
  | nil => simp at hl
  | snoc h1 h2 h3 =>
    obtain ⟨rfl, e⟩ := List.append_inj' hl rfl
    simp only [List.cons.injEq, and_true] at e
    exact ⟨_, _, h1, h2, h3, e, rfl⟩
theorem Hist.none {mk : Value} {T0 T : PT} (h : Hist mk T0 [] T) : T = T0 := by
  generalize hl : ([] : List Undo) = l at h
  cases h with
  | nil => rfl
  | snoc h1 h2 h3 => simp at hl
end Go.Proofs.YtmjiojflncffeaaGreat.Vc

/- May hangs on what is seen; two trees that look alike go on alike. -/
set_option linter.unusedVariables false
set_option linter.unusedSimpArgs false
namespace Go.Proofs.YtmjiojflncffeaaGreat.Vc
open Go

theorem has_view {T T' : PT} (hv : T.view = T'.view) (n : Int) : T.has n = T'.has n := by
  have e : T.get n = none ↔ T'.get n = none := by rw [← PT.view_none, ← PT.view_none, hv]
  unfold PT.has
  cases h : T.get n with
  | none => rw [e.1 h]
  | some x =>
    cases h' : T'.get n with
    | none => rw [e.2 h'] at h; cases h
    | some y => rfl
theorem belowA_view {T T' : PT} (hv : T.view = T'.view) : ∀ (f : Nat) (n a : Int), belowA T f n a = belowA T' f n a
  | 0, _, _ => rfl
  | f + 1, n, a => by
    unfold belowA
    split
    · rfl
    · cases h : T.get n with
      | none =>
        have : T'.get n = none := by rw [← PT.view_none, ← hv, PT.view_none]; exact h
        rw [this]
      | some x =>
        obtain ⟨y, hy, he⟩ := get_of_view (T := T') (n := n) (a := x.view) (by rw [← hv]; exact PT.view_get h)
        rw [hy]
        simp only
        have : y.parent = x.parent := congrArg AN.parent he
        rw [this, belowA_view hv f]
theorem mayA_view {T T' : PT} (hv : T.view = T'.view) (hl : T.nodes.length = T'.nodes.length) (op : Op) : mayA T op = mayA T' op := by
  unfold mayA
  rw [has_view hv, has_view hv]
  have : T.below op.parent op.node = T'.below op.parent op.node := by unfold PT.below; rw [hl]; exact belowA_view hv _ _ _
  rw [this]
theorem does_view {T T' : PT} {op : Op} {k k' : Nat} (hm : mayA T op = true) (h : T.ok k) (h' : T'.ok k') (hv : T.view = T'.view) : (T.does op).view = (T'.does op).view := by
  have hm' : mayA T' op = true := by rw [← mayA_view hv (told_eq h h' hv).2]; exact hm
  by_cases k1 : op.kind = 1
  · rw [does_view1 hm k1, does_view1 hm' k1, hv]
  · obtain ⟨x, hx⟩ := may_there hm k1
    obtain ⟨y, hy, he⟩ := get_of_view (T := T') (n := op.node) (a := x.view) (by rw [← hv]; exact PT.view_get hx)
    have e1 : y.parent = x.parent := congrArg AN.parent he
    have e2 : y.name = x.name := congrArg AN.name he
    have e3 : getS y.attrs = getS x.attrs := congrArg AN.attr he
    by_cases k2 : op.kind = 2
    · rw [does_view2 hx k2, does_view2 hy k2, hv, e3]
    · rw [does_view3 hx (h.attrs _ _ hx).1 k1 k2, does_view3 hy (h'.attrs _ _ hy).1 k1 k2, hv, e1, e2, e3]
end Go.Proofs.YtmjiojflncffeaaGreat.Vc

/- Looked up. -/
set_option linter.unusedVariables false
set_option linter.unusedSimpArgs false
set_option maxRecDepth 100000
namespace Go.Proofs.YtmjiojflncffeaaGreat.Vc
open Go Go.Proofs

theorem one_upd (r : Nat) (a b : Obj) : (one r a).upd r b = one r b := by
  funext j
  by_cases h : j = r
  · subst h; simp [PH.upd, one]
  · simp [PH.upd, one, h]
theorem one_self (r : Nat) (a : Obj) : one r a r = some a := by simp [one]
theorem nodup_len {α : Type} [BEq α] [LawfulBEq α] : ∀ {a b : List α}, a.Nodup → (∀ x ∈ a, x ∈ b) → a.length ≤ b.length
  | [], b, _, _ => by simp
  | x :: a, b, hn, hs => by
    rw [List.nodup_cons] at hn
    have hx := hs x (by simp)
    have ih := nodup_len (a := a) (b := b.erase x) hn.2 fun y hy => by
      have hy' := hs y (by simp [hy])
      exact (List.mem_erase_of_ne (fun e => by subst e; exact hn.1 hy)).2 hy'
    rw [List.length_erase_of_mem hx] at ih
    have : 0 < b.length := List.length_pos_of_mem hx
    simp only [List.length_cons]; omega
theorem IterM.mem {it mo : Obj} {b : Nat} {s l : List (Value × Value)} {kd : Option IntKind} (h : IterM it mo b s) (hm : MapI kd mo l) : ∀ p ∈ s, p ∈ l := by
  obtain ⟨es, cl, vs, rfl, rfl, h1, h2, rfl⟩ := h
  obtain ⟨es', cl', he, rfl, _, _⟩ := hm
  cases he
  intro p hp
  obtain ⟨x, hx, rfl⟩ := List.mem_map.1 hp
  exact List.mem_map.2 ⟨x, h1 x hx, rfl⟩
theorem IterM.le {it mo : Obj} {b : Nat} {s l : List (Value × Value)} {kd : Option IntKind} (h : IterM it mo b s) (hm : MapI kd mo l) : s.length ≤ l.length := by
  obtain ⟨es, cl, vs, rfl, rfl, h1, h2, rfl⟩ := h
  obtain ⟨es', cl', he, rfl, _, _⟩ := hm
  cases he
  rw [List.length_map, List.length_map]
  have := nodup_len (a := vs.map (·.born)) (b := es.toList.map (·.born)) h2 fun y hy => by
    obtain ⟨x, hx, rfl⟩ := List.mem_map.1 hy
    exact List.mem_map.2 ⟨x, h1 x hx, rfl⟩
  simpa using this
theorem rawK_perm {a b : List Int} (h : (rawK a).Perm (rawK b)) : a.Perm b := by
  have := h.map fun p : Value × Value => match p.1 with | .int _ n => n | _ => 0
  simpa [rawK, List.map_map, Function.comp_def] using this
theorem mem_rawK {p : Value × Value} {l : List Int} (h : p ∈ rawK l) : ∃ c ∈ l, p = (.int .i64 c, .int .i64 1) := by
  obtain ⟨c, hc, rfl⟩ := List.mem_map.1 h
  exact ⟨c, hc, rfl⟩

def PT.nameIs (T : PT) (c : Int) (name : ByteArray) : Prop := ∃ y, T.get c = some y ∧ y.name = name
/-- The least of these that has the name; 0 where none has it. -/
def LookP (T : PT) (name : ByteArray) (s : List Int) (best : Int) : Prop :=
  (best = 0 ∧ ∀ c ∈ s, ¬ T.nameIs c name) ∨ (best ∈ s ∧ T.nameIs best name ∧ ∀ c ∈ s, T.nameIs c name → best ≤ c)
theorem LookP.perm {T : PT} {name : ByteArray} {s t : List Int} {best : Int} (h : LookP T name s best) (hp : s.Perm t) : LookP T name t best := by
  rcases h with ⟨h1, h2⟩ | ⟨h1, h2, h3⟩
  · exact .inl ⟨h1, fun c hc => h2 c (hp.mem_iff.2 hc)⟩
  · exact .inr ⟨hp.mem_iff.1 h1, h2, fun c hc => h3 c (hp.mem_iff.2 hc)⟩

theorem LookP.skip {T : PT} {name : ByteArray} {t : List Int} {best c : Int} (h : LookP T name t best) (hc : ¬ T.nameIs c name) : LookP T name (t ++ [c]) best := by
  rcases h with ⟨h1, h2⟩ | ⟨h1, h2, h3⟩
  · refine .inl ⟨h1, fun d hd => ?_⟩
    rcases List.mem_append.1 hd with h | h
    · exact h2 d h
    · simp only [List.mem_singleton] at h; subst h; exact hc
  · refine .inr ⟨by simp [h1], h2, fun d hd hn => ?_⟩
    rcases List.mem_append.1 hd with h | h
    · exact h3 d h hn
    · simp only [List.mem_singleton] at h; subst h; exact absurd hn hc
theorem LookP.first {T : PT} {name : ByteArray} {t : List Int} {best c : Int} (h : LookP T name t best) (h0 : ∀ d ∈ t, d ≠ 0) (hb : best = 0) (hc : T.nameIs c name) : LookP T name (t ++ [c]) c := by
  rcases h with ⟨h1, h2⟩ | ⟨h1, h2, h3⟩
  · refine .inr ⟨by simp, hc, fun d hd hn => ?_⟩
    rcases List.mem_append.1 hd with h | h
    · exact absurd hn (h2 d h)
    · simp only [List.mem_singleton] at h; subst h; exact Int.le_refl _
  · exact absurd hb (h0 _ h1)
theorem LookP.more {T : PT} {name : ByteArray} {t : List Int} {best c : Int} (h : LookP T name t best) (hb : best ≠ 0) (hl : ¬ c < best) : LookP T name (t ++ [c]) best := by
  rcases h with ⟨h1, h2⟩ | ⟨h1, h2, h3⟩
  · exact absurd h1 hb
  · refine .inr ⟨by simp [h1], h2, fun d hd hn => ?_⟩
    rcases List.mem_append.1 hd with h | h
    · exact h3 d h hn
    · simp only [List.mem_singleton] at h; subst h; omega

end Go.Proofs.YtmjiojflncffeaaGreat.Vc

/- In a tree that was made each node leads to the root or the trash: plain. -/
set_option linter.unusedVariables false
set_option linter.unusedSimpArgs false
namespace Go.Proofs.YtmjiojflncffeaaGreat.Vc
open Go

theorem updV_at (v : Int → Option AN) (n : Int) (a : AN) : updV v n (some a) n = some a := by simp only [updV, if_pos]
/-- Up to a top in so many steps. -/
def LeadsN (v : Int → Option AN) : Nat → Int → Prop
  | 0, n => topB n = true
  | k + 1, n => topB n = false ∧ ∃ a, v n = some a ∧ LeadsN v k a.parent
theorem LeadsN.uniq {v : Int → Option AN} : ∀ {k j : Nat} {n : Int}, LeadsN v k n → LeadsN v j n → k = j
  | 0, 0, _, _, _ => rfl
  | 0, j + 1, n, h, h' => by have := h'.1; rw [show topB n = true from h] at this; cases this
  | k + 1, 0, n, h, h' => by have := h.1; rw [show topB n = true from h'] at this; cases this
  | k + 1, j + 1, n, ⟨_, a, h1, h2⟩, ⟨_, a', h1', h2'⟩ => by
    rw [h1] at h1'
    cases h1'
    rw [h2.uniq h2']
/-- The nodes on the way, the tops left out. -/
theorem LeadsN.way {v : Int → Option AN} : ∀ {k : Nat} {n : Int}, LeadsN v k n → ∃ l : List Int, l.length = k ∧ l.Nodup ∧ (∀ m ∈ l, v m ≠ none) ∧ ∀ m ∈ l, ∃ j, j ≤ k ∧ LeadsN v j m
  | 0, n, h => ⟨[], rfl, List.nodup_nil, fun m hm => by simp at hm, fun m hm => by simp at hm⟩
  | k + 1, n, h => by
    obtain ⟨ht, a, h1, h2⟩ := h
    obtain ⟨l, e1, e2, e3, e4⟩ := h2.way
    refine ⟨n :: l, by simp [e1], List.nodup_cons.2 ⟨fun hm => ?_, e2⟩, fun m hm => ?_, fun m hm => ?_⟩
    · obtain ⟨j, hj, h3⟩ := e4 n hm
      have := h3.uniq (show LeadsN v (k + 1) n from ⟨ht, a, h1, h2⟩)
      omega
    · rcases List.mem_cons.1 hm with rfl | hm
      · rw [h1]; simp
      · exact e3 m hm
    · rcases List.mem_cons.1 hm with rfl | hm
      · exact ⟨k + 1, Nat.le_refl _, ht, a, h1, h2⟩
      · obtain ⟨j, hj, h3⟩ := e4 m hm
        exact ⟨j, by omega, h3⟩
theorem LeadsN.few {T : PT} {k : Nat} {n : Int} (h : LeadsN T.view k n) : k ≤ T.nodes.length := by
  obtain ⟨l, e1, e2, e3, _⟩ := h.way
  have := nodup_len (b := T.nodes.map (·.1)) e2 fun m hm => Classical.byContradiction fun hc => e3 m hm (PT.view_none.2 (getA_none.2 hc))
  simpa [e1] using this
theorem LeadsN.upd {v : Int → Option AN} {n0 : Int} {a0 : AN} (h0 : ∃ j, LeadsN (updV v n0 (some a0)) j n0) : ∀ {k : Nat} {n : Int}, LeadsN v k n → ∃ j, LeadsN (updV v n0 (some a0)) j n
  | 0, n, h => ⟨0, h⟩
  | k + 1, n, h => by
    by_cases hn : n = n0
    · subst hn; exact h0
    · obtain ⟨ht, a, h1, h2⟩ := h
      obtain ⟨j, hj⟩ := h2.upd h0
      exact ⟨j + 1, ht, a, by simp only [updV, if_neg hn]; exact h1, hj⟩
/-- A way that does not pass a node stays when that node is moved. -/
theorem LeadsN.past {T : PT} {n0 : Int} {a0 : AN} : ∀ {k f : Nat} {n : Int}, LeadsN T.view k n → k < f → belowA T f n n0 = false → LeadsN (updV T.view n0 (some a0)) k n
  | 0, f, n, h, _, _ => h
  | k + 1, 0, n, h, hf, _ => by omega
  | k + 1, f + 1, n, h, hf, hb => by
    obtain ⟨ht, a, h1, h2⟩ := h
    obtain ⟨x, hx, rfl⟩ := get_of_view h1
    unfold belowA at hb
    by_cases hn : n = n0
    · rw [if_pos hn] at hb; cases hb
    · rw [if_neg hn, hx] at hb
      simp only at hb
      rw [ht] at hb
      simp only [Bool.false_eq_true, if_false] at hb
      refine ⟨ht, x.view, by simp only [updV, if_neg hn]; exact h1, ?_⟩
      exact LeadsN.past h2 (by omega) hb
def PT.led (T : PT) : Prop := ∀ n, T.view n ≠ none → ∃ k, LeadsN T.view k n
theorem has_iff {T : PT} {n : Int} : T.has n = true ↔ T.view n ≠ none := by
  rw [PT.has, Option.isSome_iff_ne_none]
  exact not_congr PT.view_none.symm
theorem led_of {v : Int → Option AN} {n0 : Int} {a0 : AN} (h : ∀ n, v n ≠ none → ∃ k, LeadsN v k n) (h0 : ∃ j, LeadsN (updV v n0 (some a0)) j n0) : ∀ n, updV v n0 (some a0) n ≠ none → ∃ k, LeadsN (updV v n0 (some a0)) k n := by
  intro n hn
  by_cases e : n = n0
  · subst e; exact h0
  · obtain ⟨k, hk⟩ := h n (by simpa only [updV, if_neg e] using hn)
    exact hk.upd h0
theorem T0_led : T0.led := fun n hn => by
  refine ⟨0, ?_⟩
  have hm : n ∈ T0.nodes.map (·.1) := Classical.byContradiction fun hc => hn (PT.view_none.2 (getA_none.2 hc))
  have : n = 1 ∨ n = 2 := by simpa [T0] using hm
  rcases this with rfl | rfl <;> exact (show topB _ = true by decide)
theorem does_led {T : PT} {op : Op} {k : Nat} (h : T.led) (hok : T.ok k) (hm : mayA T op = true) : (T.does op).led := by
  unfold PT.led
  by_cases k1 : op.kind = 1
  · rw [does_view1 hm k1]
    refine led_of h ?_
    obtain ⟨hn, x, hx⟩ := may_make hm k1
    rw [mayA, if_pos k1] at hm
    simp only [Bool.and_eq_true, decide_eq_true_eq] at hm
    have ht : topB op.node = false := by simp only [topB]; simp; omega
    obtain ⟨j, hj⟩ := h op.parent (by rw [PT.view_get hx]; simp)
    have hp : ∀ (f : Nat) (n : Int) (j : Nat), LeadsN T.view j n → LeadsN (updV T.view op.node (some ⟨op.parent, op.name, fun _ => none⟩)) j n := by
      intro f n j
      induction j generalizing n with
      | zero => exact fun h => h
      | succ j ih =>
        rintro ⟨h1, a, h2, h3⟩
        refine ⟨h1, a, ?_, ih _ h3⟩
        have : n ≠ op.node := fun e => by rw [e, PT.view_none.2 hn] at h2; cases h2
        simp only [updV, if_neg this]; exact h2
    exact ⟨j + 1, ht, _, updV_at _ _ _, hp 0 _ _ hj⟩
  · obtain ⟨x, hx⟩ := may_there hm k1
    by_cases k2 : op.kind = 2
    · rw [does_view2 hx k2]
      refine led_of h ?_
      rw [mayA, if_neg k1, if_pos k2] at hm
      simp only [Bool.and_eq_true, Bool.not_eq_true'] at hm
      obtain ⟨j, hj⟩ := h op.parent (has_iff.1 hm.1.1.2)
      exact ⟨j + 1, hm.1.1.1.2, _, updV_at _ _ _, hj.past (by have := hj.few; omega) hm.1.2⟩
    · rw [does_view3 hx (hok.attrs _ _ hx).1 k1 k2]
      refine led_of h ?_
      obtain ⟨j, hj⟩ := h op.node (by rw [PT.view_get hx]; simp)
      have hp : ∀ (n : Int) (j : Nat), LeadsN T.view j n → LeadsN (updV T.view op.node (some ⟨x.parent, x.name, fun j => if j = op.key then (if op.value = empty then none else some op.value) else getS x.attrs j⟩)) j n := by
        intro n j
        induction j generalizing n with
        | zero => exact fun h => h
        | succ j ih =>
          rintro ⟨h1, a, h2, h3⟩
          by_cases e : n = op.node
          · subst e
            rw [PT.view_get hx] at h2
            cases h2
            exact ⟨h1, _, updV_at _ _ _, ih _ h3⟩
          · exact ⟨h1, a, by simp only [updV, if_neg e]; exact h2, ih _ h3⟩
      exact ⟨j, hp _ _ hj⟩
end Go.Proofs.YtmjiojflncffeaaGreat.Vc

/- What is true of every tree that was made: names, attributes, children: plain. -/
set_option linter.unusedVariables false
set_option linter.unusedSimpArgs false
namespace Go.Proofs.YtmjiojflncffeaaGreat.Vc
open Go

/-- A tree as it may be seen. -/
structure VGood (v : Int → Option AN) : Prop where
  pos : ∀ n a, v n = some a → 0 < n
  one : v 1 ≠ none
  two : v 2 ≠ none
  top : ∀ n a, v n = some a → topB n = true → a.parent = 0 ∧ a.name = empty
  name : ∀ n a, v n = some a → topB n = false → nameB a.name = true
  pairs : ∀ n a k w, v n = some a → a.attr k = some w → pairB k w = true ∧ w ≠ empty
  led : ∀ n, v n ≠ none → ∃ k, LeadsN v k n

theorem topB_iff {n : Int} : topB n = true ↔ n = 1 ∨ n = 2 := by simp [topB]
theorem T0_keys {n : Int} {a : AN} (h : T0.view n = some a) : topB n = true ∧ a = PN.bare.view := by
  obtain ⟨x, hx, rfl⟩ := get_of_view h
  have := getA_mem hx
  simp only [T0, List.mem_cons, List.not_mem_nil, or_false, Prod.mk.injEq] at this
  rcases this with ⟨rfl, rfl⟩ | ⟨rfl, rfl⟩ <;> exact ⟨by decide, rfl⟩
theorem T0_good : VGood T0.view := by
  refine ⟨fun n a h => ?_, ?_, ?_, fun n a h _ => ?_, fun n a h ht => ?_, fun n a k w h hk => ?_, T0_led⟩
  · have := topB_iff.1 (T0_keys h).1; omega
  · rw [show T0.view 1 = some PN.bare.view from rfl]; simp
  · rw [show T0.view 2 = some PN.bare.view from rfl]; simp
  · rw [(T0_keys h).2]; exact ⟨rfl, rfl⟩
  · rw [(T0_keys h).1] at ht; cases ht
  · rw [(T0_keys h).2] at hk; cases hk

theorem updV_ne {v : Int → Option AN} {n j : Int} {a : Option AN} (h : j ≠ n) : updV v n a j = v j := if_neg h
theorem updV_eq {v : Int → Option AN} {n : Int} {a : Option AN} : updV v n a n = a := if_pos rfl

theorem does_good {T : PT} {op : Op} {k : Nat} (h : VGood T.view) (hok : T.ok k) (hm : mayA T op = true) : VGood (T.does op).view := by
  have hled := does_led h.led hok hm
  unfold PT.led at hled
  have build : ∀ (n0 : Int) (a0 : AN), (T.does op).view = updV T.view n0 (some a0) → 0 < n0 → (topB n0 = true → a0.parent = 0 ∧ a0.name = empty) → (topB n0 = false → nameB a0.name = true) →
      (∀ k w, a0.attr k = some w → pairB k w = true ∧ w ≠ empty) → VGood (T.does op).view := by
    intro n0 a0 hv h1 h2 h3 h4
    rw [hv] at hled ⊢
    refine ⟨fun n a hn => ?_, ?_, ?_, fun n a hn => ?_, fun n a hn => ?_, fun n a k w hn => ?_, hled⟩
    · by_cases e : n = n0
      · rw [e]; exact h1
      · rw [updV_ne e] at hn; exact h.pos n a hn
    · by_cases e : (1 : Int) = n0
      · rw [e, updV_eq]; simp
      · rw [updV_ne e]; exact h.one
    · by_cases e : (2 : Int) = n0
      · rw [e, updV_eq]; simp
      · rw [updV_ne e]; exact h.two
    · by_cases e : n = n0
      · rw [e, updV_eq] at hn; cases hn; rw [e]; exact h2
      · rw [updV_ne e] at hn; exact h.top n a hn
    · by_cases e : n = n0
      · rw [e, updV_eq] at hn; cases hn; rw [e]; exact h3
      · rw [updV_ne e] at hn; exact h.name n a hn
    · by_cases e : n = n0
      · rw [e, updV_eq] at hn; cases hn; exact h4 k w
      · rw [updV_ne e] at hn; exact h.pairs n a k w hn
  by_cases k1 : op.kind = 1
  · have hm' := hm
    rw [mayA, if_pos k1] at hm
    simp only [Bool.and_eq_true, decide_eq_true_eq] at hm
    have ht : topB op.node = false := by simp only [topB]; simp; omega
    exact build _ _ (does_view1 hm' k1) (by omega) (fun e => by rw [ht] at e; cases e) (fun _ => hm.2) (fun k w e => by cases e)
  · obtain ⟨x, hx⟩ := may_there hm k1
    have hxv := PT.view_get hx
    by_cases k2 : op.kind = 2
    · have hv := does_view2 hx k2
      rw [mayA, if_neg k1, if_pos k2] at hm
      simp only [Bool.and_eq_true, Bool.not_eq_true'] at hm
      exact build _ _ hv (h.pos _ _ hxv) (fun e => by rw [hm.1.1.1.2] at e; cases e) (fun _ => hm.2) (fun k w e => h.pairs _ _ k w hxv e)
    · have hv := does_view3 hx (hok.attrs _ _ hx).1 k1 k2
      have hp : pairB op.key op.value = true := by
        rw [mayA, if_neg k1, if_neg k2] at hm
        split at hm
        · simp only [Bool.and_eq_true] at hm; exact hm.2
        · cases hm
      refine build _ _ hv (h.pos _ _ hxv) (fun e => h.top _ x.view hxv e) (fun e => h.name _ x.view hxv e) fun k w e => ?_
      simp only at e
      split at e
      · split at e
        · cases e
        · cases e
          rename_i e1 e2
          rw [e1]; exact ⟨hp, e2⟩
      · exact h.pairs _ _ k w hxv e

/-! ### Children -/
structure PT.kidsOk (T : PT) : Prop where
  nod : ∀ n x, T.get n = some x → x.kids.Nodup
  mem : ∀ n x c, T.get n = some x → (c ∈ x.kids ↔ topB c = false ∧ ∃ y, T.get c = some y ∧ y.parent = n)
theorem putK_nodup {l : List Int} (h : l.Nodup) (n : Int) : (putK l n).Nodup := by
  unfold putK
  split
  · exact h
  · rename_i hn
    rw [List.nodup_append]
    refine ⟨h, by simp, fun a ha b hb => ?_⟩
    simp only [List.mem_singleton] at hb
    subst hb
    exact fun e => hn (e ▸ ha)
theorem mem_putK {l : List Int} {n c : Int} : c ∈ putK l n ↔ c = n ∨ c ∈ l := by
  unfold putK
  split
  · rename_i hn
    constructor
    · exact .inr
    · rintro (rfl | h)
      · exact hn
      · exact h
  · simp [or_comm]
end Go.Proofs.YtmjiojflncffeaaGreat.Vc

/- From what a call computes to the row of a law that answers true and leaves its arguments as they were. -/
set_option linter.unusedVariables false
set_option linter.unusedSimpArgs false
namespace Go.Proofs.YtmjiojflncffeaaGreat.Vc
open Go Go.ChangeShapes Go.WideShapes Go.ChangeAt Go.WideElems

section
variable {H : Type} {enc : TypeId × Value → H} {P : Program} {W W' : World}

theorem Kept.old (h : Kept PH.no W W') {k : Nat} (hk : k < W.heap.size) : W'.heap[k]? = W.heap[k]? := h.2.2.2.2 k hk rfl

theorem Kept.but (h : Kept PH.no W W') (may : MemPlace → Prop) : W.keptBut W' may := by
  refine ⟨h.1, h.2.2.1, fun i hi => ?_⟩
  rw [h.old hi]
  cases W.heap[i]? with
  | none => rfl
  | some o => cases o <;> first | exact ⟨rfl, rfl, rfl, fun _ _ => rfl⟩ | exact .inr ⟨rfl, rfl⟩ | rfl

theorem Kept.at (h : Kept PH.no W W') {p : MemPlace} (hp : p.block < W.heap.size) : W.sameAt W' p := by
  cases p with
  | cell b off =>
    show W'.cell? _ = W.cell? _
    have e : W'.heap[b]? = W.heap[b]? := h.old hp
    unfold World.cell?
    simp only [e]
  | map b => exact h.old hp

theorem trodAll_stays (hl : laidOutB P = true) {sp' : Nat → Bool} : ∀ {ts : List TypeId} {vs : List Value} {ds : List (DataW H)} {ps : List MemPlace}, (∀ t ∈ ts, P.readableRec t = true ∧ t < P.types.size) →
    DataW.TrodAll enc P W 0 (fun _ => true) true ts vs ds ps → (∀ p ∈ ps, W.sameAt W' p) → (∀ p ∈ ps, sp' p.block = true) → DataW.TrodAll enc P W' 0 sp' true ts vs ds ps
  | [], vs, ds, ps, _, h, _, _ => by
    obtain ⟨rfl, rfl, rfl⟩ := trodAll_nil h
    exact rfl
  | t :: ts, vs, ds, ps, hr, h, h1, h2 => by
    obtain ⟨v, vs', d, ds', p, q, rfl, rfl, rfl, h3, h4⟩ := trodAll_cons h
    exact ⟨p, q, Trod_stays hl (hr t (by simp)).1 (hr t (by simp)).2 h3 (fun x hx => h1 x (by simp [hx])) (fun x hx => h2 x (by simp [hx])),
      trodAll_stays hl (fun t ht => hr t (by simp [ht])) h4 (fun x hx => h1 x (by simp [hx])) (fun x hx => h2 x (by simp [hx])), rfl⟩

theorem contract_true {f : Nat} {fn : Func} {s : ChangeSpec} {apart fresh handsOn again : Bool} {args : Array Value} {ds gs : List (DataW H)} {before : List MemPlace} {tb : TypeId} (hl : laidOutB P = true)
    (hr : (fn.params.toList.all fun t => P.readableRec t && decide (t < P.types.size)) = true) (hv : s.vars = []) (hres : fn.resultTypes = #[tb]) (htb : P.underlying tb = some .bool)
    (hs : s.fn H (ds ++ gs) = { results := [.lit (.bool true)], args := ds }) (hW : DataW.Whole enc P fn.params.toList s.vars apart W args.toList ds gs before)
    (h : Spec P f args.toList PH.no W fun rs _ => rs = [.s (.bool true)]) :
    Calls P f args W fun e W' => ∃ v, e = .returned v ∧ s.post enc P fn apart fresh handsOn again W args v W' ∧ W.keptBut W' (fun _ => False) := by
  have h0 := h (fun _ _ e => by cases e)
  rw [show args.toList.toArray = args by simp] at h0
  refine h0.mono fun e W' he => ?_
  obtain ⟨rs, m', rfl, _, rfl, _, _, hk⟩ := he
  refine ⟨.bool true, rfl, ?_, hk.but _⟩
  have hW0 := hW
  obtain ⟨p, q, hA, hV, rfl, hfz, hnd⟩ := hW
  rw [hv] at hV
  obtain ⟨rfl, rfl⟩ := trodVars_none hV
  simp only [List.append_nil] at *
  have hall : ∀ t ∈ fn.params.toList, P.readableRec t = true ∧ t < P.types.size := by
    intro t ht
    have := List.all_eq_true.1 hr t ht
    simpa using this
  have hlt := DataW.TrodAll.lt hA
  have hargs : ∀ sp : Nat → Bool, (∀ x ∈ p, sp x.block = true) → DataW.TrodAll enc P W' 0 sp true fn.params.toList args.toList ds p := fun sp hsp =>
    trodAll_stays hl hall hA (fun x hx => hk.at (hlt x hx)) hsp
  have hbool : ∀ (b : Nat) (sp : Nat → Bool) (hd : Bool), DataW.TrodAll enc P W' b sp hd fn.resultTypes.toList ((Value.bool true).resultList fn.resultTypes.size) [.lit (.bool true)] [] := by
    intro b sp hd
    rw [hres]
    exact ⟨[], [], ⟨1, by simp [DataW.trod, htb, Value.cells]⟩, rfl, rfl⟩
  have hcell : ∀ x ∈ p, x.block < W.heap.size := hlt
  refine ⟨ds, [], p, [], p, [], by simpa using hW0, by rw [List.append_nil, hs]; exact hbool _ _ _, by rw [List.append_nil, hs]; exact hargs _ (fun x hx => by simpa using hlt x hx), by rw [hv]; rw [List.append_nil, hs]; exact rfl, hk.but _, fun _ => ⟨?_, ?_⟩⟩
  · intro j t r hj hr'
    rw [hres] at hj hr'
    match j, hj, hr' with
    | 0, hj, hr' =>
      simp [Value.resultList] at hj hr'
      subst hj; subst hr'
      simp [Value.okWide, htb, Cell.okWide, Cell.ok]
  · refine ⟨_, [], p, ⟨[] ++ p, [], trodAll_append (hargs _ (fun _ _ => rfl)) (hbool _ _ _), by rw [hv]; exact rfl, by simp, ?_, fun ha => by simpa using hnd ha⟩, fun x hx _ => hx⟩
    intro b off hp
    have := hfz b off hp
    unfold World.frozen? at this ⊢
    have e : W'.heap[b]? = W.heap[b]? := hk.old (hlt _ hp)
    simp only [e]
    exact this

end

end Go.Proofs.YtmjiojflncffeaaGreat.Vc

/- What a law's arguments are: plain values, cell by cell. -/
set_option linter.unusedVariables false
set_option linter.unusedSimpArgs false
namespace Go.Proofs.YtmjiojflncffeaaGreat.Vc
open Go

/-- A plain cell's kind. -/
inductive K1 where
  | i (k : IntKind)
  | s
  | b
  | sl (t : TypeId)

def K1.is : K1 → Value → Prop
  | .i k, v => ∃ n, v = .int k n ∧ k.has n
  | .s, v => ∃ s, v = .string s ∧ (s.size : Int) ≤ IntKind.i64.max
  | .b, v => ∃ b, v = .bool b
  | .sl _, v => ∃ a n c, v = .slice a n c

/-- A plain value's content. -/
structure Raw where
  x : Nat → Int
  y : Nat → ByteArray
  z : Nat → Bool
  v : Nat → Value

def Raw.at (r : Raw) (i : Nat) : K1 → Value
  | .i k => .int k (r.x i)
  | .s => .string (r.y i)
  | .b => .bool (r.z i)
  | .sl _ => r.v i

def Raw.cells (r : Raw) : List K1 → Nat → List Value
  | [], _ => []
  | k :: l, i => r.at i k :: r.cells l (i + 1)

/-- Its numbers are numbers of their kind. -/
def Raw.fine (r : Raw) : List K1 → Nat → Prop
  | [], _ => True
  | k :: l, i => (match k with | .i k => k.has (r.x i) | .s => ((r.y i).size : Int) ≤ IntKind.i64.max | .b => True | .sl _ => ∃ a n c, r.v i = .slice a n c) ∧ r.fine l (i + 1)

theorem raw_of : ∀ (ks : List K1) (i : Nat) (cs : List Value), cs.length = ks.length → (∀ (j : Nat) (v : Value) (k : K1), cs[j]? = some v → ks[j]? = some k → k.is v) → ∃ r : Raw, cs = r.cells ks i ∧ r.fine ks i
  | [], i, cs, hl, _ => by
    have : cs = [] := by simpa using hl
    subst this
    exact ⟨⟨fun _ => 0, fun _ => ⟨#[]⟩, fun _ => false, fun _ => undef⟩, rfl, trivial⟩
  | k :: ks, i, cs, hl, h => by
    cases cs with
    | nil => simp at hl
    | cons v cs =>
      obtain ⟨r, hr, hf⟩ := raw_of ks (i + 1) cs (by simpa using hl) (fun j v k hj hk => h (j + 1) v k (by simpa using hj) (by simpa using hk))
      have h0 := h 0 v k rfl rfl
      have key : ∀ (r' : Raw), (∀ j, i < j → r'.x j = r.x j ∧ r'.y j = r.y j ∧ r'.z j = r.z j ∧ r'.v j = r.v j) → (∀ l m, i < m → r'.cells l m = r.cells l m) ∧ (∀ l m, i < m → (r'.fine l m ↔ r.fine l m)) := by
        intro r' hs
        constructor
        · intro l
          induction l with
          | nil => intro m _; rfl
          | cons q l ih =>
            intro m hm
            obtain ⟨e1, e2, e3, e4⟩ := hs m hm
            simp only [Raw.cells, ih (m + 1) (by omega)]
            congr 1
            cases q <;> simp [Raw.at, e1, e2, e3, e4]
        · intro l
          induction l with
          | nil => intro m _; exact Iff.rfl
          | cons q l ih =>
            intro m hm
            obtain ⟨e1, e2, e3, e4⟩ := hs m hm
            simp only [Raw.fine, ih (m + 1) (by omega), e1, e2, e4]
      cases k with
      | i k =>
        obtain ⟨n, rfl, hn⟩ := h0
        refine ⟨⟨fun j => if j = i then n else r.x j, r.y, r.z, r.v⟩, ?_, ?_⟩
        · obtain ⟨g1, g2⟩ := key ⟨fun j => if j = i then n else r.x j, r.y, r.z, r.v⟩ (fun j hj => ⟨by simp; omega, rfl, rfl, rfl⟩)
          simp only [Raw.cells, g1 ks (i + 1) (by omega), ← hr, Raw.at, if_true]
        · obtain ⟨g1, g2⟩ := key ⟨fun j => if j = i then n else r.x j, r.y, r.z, r.v⟩ (fun j hj => ⟨by simp; omega, rfl, rfl, rfl⟩)
          exact ⟨by simpa using hn, (g2 ks (i + 1) (by omega)).2 hf⟩
      | s =>
        obtain ⟨n, rfl, hn⟩ := h0
        refine ⟨⟨r.x, fun j => if j = i then n else r.y j, r.z, r.v⟩, ?_, ?_⟩
        · obtain ⟨g1, g2⟩ := key ⟨r.x, fun j => if j = i then n else r.y j, r.z, r.v⟩ (fun j hj => ⟨rfl, by simp; omega, rfl, rfl⟩)
          simp only [Raw.cells, g1 ks (i + 1) (by omega), ← hr, Raw.at, if_true]
        · obtain ⟨g1, g2⟩ := key ⟨r.x, fun j => if j = i then n else r.y j, r.z, r.v⟩ (fun j hj => ⟨rfl, by simp; omega, rfl, rfl⟩)
          exact ⟨by simpa using hn, (g2 ks (i + 1) (by omega)).2 hf⟩
      | b =>
        obtain ⟨n, rfl⟩ := h0
        refine ⟨⟨r.x, r.y, fun j => if j = i then n else r.z j, r.v⟩, ?_, ?_⟩
        · obtain ⟨g1, g2⟩ := key ⟨r.x, r.y, fun j => if j = i then n else r.z j, r.v⟩ (fun j hj => ⟨rfl, rfl, by simp; omega, rfl⟩)
          simp only [Raw.cells, g1 ks (i + 1) (by omega), ← hr, Raw.at, if_true]
        · obtain ⟨g1, g2⟩ := key ⟨r.x, r.y, fun j => if j = i then n else r.z j, r.v⟩ (fun j hj => ⟨rfl, rfl, by simp; omega, rfl⟩)
          exact ⟨trivial, (g2 ks (i + 1) (by omega)).2 hf⟩
      | sl t =>
        obtain ⟨a, n, c, rfl⟩ := h0
        refine ⟨⟨r.x, r.y, r.z, fun j => if j = i then .slice a n c else r.v j⟩, ?_, ?_⟩
        · obtain ⟨g1, g2⟩ := key ⟨r.x, r.y, r.z, fun j => if j = i then .slice a n c else r.v j⟩ (fun j hj => ⟨rfl, rfl, rfl, by simp; omega⟩)
          simp only [Raw.cells, g1 ks (i + 1) (by omega), ← hr, Raw.at, if_true]
        · obtain ⟨g1, g2⟩ := key ⟨r.x, r.y, r.z, fun j => if j = i then .slice a n c else r.v j⟩ (fun j hj => ⟨rfl, rfl, rfl, by simp; omega⟩)
          exact ⟨⟨a, n, c, by simp⟩, (g2 ks (i + 1) (by omega)).2 hf⟩

section
variable {P : Program} {W : World} {r : Reach} {base : Nat} {t : TypeId} {v : Value}

def agDo : Option TypeDesc → Bool
  | some (.struct _) | some (.array _ _) => true
  | _ => false

end


theorem cells_append (q : Raw) : ∀ (a b : List K1) (o : Nat), q.cells (a ++ b) o = q.cells a o ++ q.cells b (o + a.length)
  | [], b, o => by simp [Raw.cells]
  | k :: a, b, o => by
    simp only [List.cons_append, Raw.cells, cells_append q a b (o + 1), List.length_cons]
    rw [show o + 1 + a.length = o + (a.length + 1) by omega]

def kVec : List K1 := List.replicate 8 (.i .i64)
theorem kVec_len : kVec.length = 8 := rfl
theorem gVec_flat (q : Raw) (o : Nat) : GV.flat (gVec fun j => q.x (o + j)) = q.cells kVec o := by
  simp [gVec, GV.flat, kVec, Raw.cells, Raw.at, List.replicate, List.range, List.range.loop]
def kVec2 : List K1 := kVec ++ kVec ++ kVec ++ kVec ++ kVec ++ kVec ++ kVec ++ kVec
theorem kVec2_len : kVec2.length = 64 := rfl
theorem gVec2_flat (q : Raw) (o : Nat) : GV.flat (gVec2 fun i j => q.x (o + i * 8 + j)) = q.cells kVec2 o := by
  have h : ∀ i, GV.flat (gVec fun j => q.x (o + i * 8 + j)) = q.cells kVec (o + i * 8) := fun i => gVec_flat q (o + i * 8)
  simp only [gVec2, GV.flat, List.range, List.range.loop, List.flatMap_cons, List.flatMap_nil, h, kVec2, cells_append, List.length_append, kVec_len]
  simp [Nat.add_assoc]

end Go.Proofs.YtmjiojflncffeaaGreat.Vc

/- What a law's arguments are: cells of structs, slices, slices in structs; and how large. -/
set_option linter.unusedVariables false
set_option linter.unusedSimpArgs false
namespace Go.Proofs.YtmjiojflncffeaaGreat.Vc
open Go Go.ChangeShapes Go.WideShapes Go.ChangeAt

def kFields (g : TypeId → Option (List K1)) (P : Program) : List Field → Nat → Option (List K1)
  | [], _ => some []
  | f :: fs, o => if f.offset = o then (g f.type).bind fun l => if l.length = P.cellsOf f.type then (kFields g P fs (o + l.length)).map (l ++ ·) else none else none

/-- The kinds of a type's cells. -/
def kAll (P : Program) : Nat → TypeId → Option (List K1)
  | 0, _ => none
  | n + 1, t => match P.underlying t with
    | some .bool => some [.b]
    | some (.int k) => some [.i k]
    | some .string => some [.s]
    | some (.slice _) => some [.sl t]
    | some (.struct fs) => (kFields (kAll P n) P fs.toList 0).bind fun l => if l.length = P.cellsOf t then some l else none
    | some (.array m e) => (kAll P n e).bind fun l => if l.length = P.cellsOf e ∧ m * P.cellsOf e = P.cellsOf t then some ((List.range m).flatMap fun _ => l) else none
    | _ => none

section
variable {H : Type} (enc : TypeId × Value → H) (P : Program) (W : World)

/-- A cell that reads, and is not too large. -/
def RdT (t : TypeId) (v : Value) : Prop := ∃ fuel x, DataW.trod enc P W 0 (fun _ => true) true fuel t [v] = some x ∧ (x.1.weights P t).all (· ≤ reachBytes) = true

def KOk (k : K1) (v : Value) : Prop := k.is v ∧ (∀ s, v = .string s → s.size ≤ reachBytes) ∧ ∀ t, k = .sl t → RdT enc P W t v
end

section
variable {H : Type} {enc : TypeId × Value → H} {P : Program} {W : World}

theorem wf_has {k : IntKind} {n : Int} (h : (Lit.int k n).wf = true) : k.has n := by
  simpa [Lit.wf, IntKind.has] using h

theorem all_sub {a b : List Nat} (h : b.all (· ≤ reachBytes) = true) (hs : ∀ x ∈ a, x ∈ b) : a.all (· ≤ reachBytes) = true := by
  rw [List.all_eq_true] at h ⊢
  exact fun x hx => h x (hs x hx)

theorem weightsEach_mem : ∀ {ts : List TypeId} {ds : List (DataW H)} {i : Nat} {t : TypeId} {d : DataW H}, ts[i]? = some t → ds[i]? = some d → ∀ x ∈ d.weights P t, x ∈ DataW.weightsEach P ts ds
  | [], _, i, _, _, h, _ => by simp at h
  | t :: ts, [], i, _, _, _, h => by simp at h
  | t :: ts, d :: ds, 0, _, _, h1, h2 => by
    simp at h1 h2; subst h1; subst h2
    intro x hx; simp [DataW.weightsEach, hx]
  | t :: ts, d :: ds, i + 1, _, _, h1, h2 => by
    intro x hx
    have := weightsEach_mem (ts := ts) (ds := ds) (i := i) (by simpa using h1) (by simpa using h2) x hx
    simp [DataW.weightsEach, this]
theorem weightsAll_mem {e : TypeId} : ∀ {ds : List (DataW H)} {d : DataW H}, d ∈ ds → ∀ x ∈ d.weights P e, x ∈ DataW.weightsAll P e ds
  | [], _, h => by simp at h
  | d :: ds, d', h => by
    intro x hx
    rcases List.mem_cons.1 h with rfl | h
    · simp [DataW.weightsAll, hx]
    · simp [DataW.weightsAll, weightsAll_mem h x hx]

def Kinds (ks : List K1) (cs : List Value) : Prop := cs.length = ks.length ∧ ∀ (j : Nat) (v : Value) (k : K1), cs[j]? = some v → ks[j]? = some k → KOk enc P W k v

theorem Kinds.app {a b : List K1} {cs : List Value} (h1 : Kinds (enc := enc) (P := P) (W := W) a (cs.take a.length)) (h2 : Kinds (enc := enc) (P := P) (W := W) b (cs.drop a.length)) : Kinds (enc := enc) (P := P) (W := W) (a ++ b) cs := by
  obtain ⟨l1, h1⟩ := h1
  obtain ⟨l2, h2⟩ := h2
  simp only [List.length_take, List.length_drop] at l1 l2
  refine ⟨by simp; omega, fun j v k hj hk => ?_⟩
  rcases Nat.lt_or_ge j a.length with hl | hl
  · rw [List.getElem?_append_left hl] at hk
    exact h1 j v k (by rw [List.getElem?_take_of_lt hl]; exact hj) hk
  · rw [List.getElem?_append_right hl] at hk
    exact h2 (j - a.length) v k (by rw [List.getElem?_drop, show a.length + (j - a.length) = j by omega]; exact hj) hk

theorem trod_kinds : ∀ (n : Nat) (fuel : Nat) (t : TypeId) (ks : List K1) (cs : List Value) (x : DataW H × List MemPlace), kAll P n t = some ks → DataW.trod enc P W 0 (fun _ => true) true fuel t cs = some x →
    (x.1.weights P t).all (· ≤ reachBytes) = true → Kinds (enc := enc) (P := P) (W := W) ks cs := by
  intro n
  induction n with
  | zero => intro fuel t ks cs x hk; cases hk
  | succ n ih =>
    intro fuel t ks cs x hk h hw
    unfold kAll at hk
    have single : ∀ (k : K1) (v : Value), KOk enc P W k v → Kinds (enc := enc) (P := P) (W := W) [k] [v] := fun k v hkv => by
      refine ⟨rfl, fun j v' k' hj hk' => ?_⟩
      cases j with
      | zero => simp at hj hk'; subst hj; subst hk'; exact hkv
      | succ j => simp at hj
    cases hu : P.underlying t with
    | none => rw [hu] at hk; cases hk
    | some d =>
      rw [hu] at hk
      cases d with
      | bool =>
        obtain ⟨b, rfl, rfl⟩ := DataW.trod_bool hu h
        simp at hk; subst hk
        exact single _ _ ⟨⟨b, rfl⟩, (fun s hs => by cases hs), fun t e => by cases e⟩
      | int k =>
        obtain ⟨m, rfl, rfl, hwf⟩ := DataW.trod_int hu h
        simp at hk; subst hk
        exact single _ _ ⟨⟨m, rfl, wf_has hwf⟩, (fun s hs => by cases hs), fun t e => by cases e⟩
      | string =>
        obtain ⟨s, rfl, rfl, hl⟩ := DataW.trod_string hu h
        simp at hk; subst hk
        have : s.size ≤ reachBytes := by simpa [DataW.weights] using hw
        exact single _ _ ⟨⟨s, rfl, by unfold reachBytes at this; show (s.size : Int) ≤ 9223372036854775807; omega⟩, (fun s' hs => by cases hs; exact this), fun t e => by cases e⟩
      | slice e =>
        have hcs : ∃ a n c, cs = [.slice a n c] := by
          rcases DataW.trod_slice hu h with ⟨rfl, _⟩ | ⟨a, len, cap, _, _, _, _, rfl, _⟩
          · exact ⟨_, _, _, rfl⟩
          · exact ⟨_, _, _, rfl⟩
        obtain ⟨a, m, c, rfl⟩ := hcs
        simp at hk; subst hk
        refine single _ _ ⟨⟨a, m, c, rfl⟩, (fun s hs => by cases hs), fun t' e' => ?_⟩
        cases e'
        exact ⟨fuel, x, h, hw⟩
      | struct fs =>
        simp only [Option.bind_eq_some_iff] at hk
        obtain ⟨l, hl, hk⟩ := hk
        split at hk
        · rename_i hlen
          simp at hk; subst hk
          obtain ⟨xs, m, _, rfl, hcl, hxl, hf⟩ := DataW.trod_struct hu h
          simp only [DataW.weights, hu] at hw
          have key : ∀ (gs : List Field) (i o : Nat) (l' : List K1), (∀ k f, gs[k]? = some f → fs[i + k]? = some f) → i + gs.length = fs.size → kFields (kAll P n) P gs o = some l' → (cs.drop o).length = l'.length → Kinds (enc := enc) (P := P) (W := W) l' (cs.drop o) := by
            intro gs
            induction gs with
            | nil =>
              intro i o l' _ _ hl' hlen'
              simp [kFields] at hl'; subst hl'
              have : cs.drop o = [] := List.length_eq_zero_iff.mp (by simpa using hlen')
              rw [this]
              exact ⟨rfl, fun j v k hj => by simp at hj⟩
            | cons f gs ihg =>
              intro i o l' hgs hi hl' hlen'
              simp only [kFields] at hl'
              split at hl'
              · rename_i hoff
                simp only [Option.bind_eq_some_iff] at hl'
                obtain ⟨a, ha, hl'⟩ := hl'
                split at hl'
                · rename_i hal
                  simp only [Option.map_eq_some_iff] at hl'
                  obtain ⟨b, hb, rfl⟩ := hl'
                  have hfi := hgs 0 f rfl
                  rw [Nat.add_zero] at hfi
                  have hlt : i < fs.size := by simp at hi; omega
                  have ht := hf i f hfi
                  rw [List.getElem?_eq_getElem (by omega : i < xs.length)] at ht
                  have hk1 := ih m f.type a _ _ ha ht (all_sub hw (fun y hy => weightsEach_mem (i := i) (t := f.type) (d := xs[i].1) (by simp [hfi]) (by simp [List.getElem?_eq_getElem (by omega : i < xs.length)]) y hy))
                  rw [hoff, ← hal] at hk1
                  refine Kinds.app hk1 ?_
                  rw [List.drop_drop]
                  simp only [List.length_append] at hlen'
                  refine ihg (i + 1) (o + a.length) b (fun k f' hk' => ?_) (by simp at hi; omega) hb (by simp only [List.length_drop] at hlen' ⊢; omega)
                  have := hgs (k + 1) f' (by simpa using hk')
                  rw [show i + (k + 1) = i + 1 + k by omega] at this
                  exact this
                · cases hl'
              · cases hl'
          have := key fs.toList 0 0 l (fun k f hk => by simpa using hk) (by simp) hl (by simp [hcl, hlen])
          simpa using this
        · cases hk
      | array m e =>
        simp only [Option.bind_eq_some_iff] at hk
        obtain ⟨l, hl, hk⟩ := hk
        split at hk
        · rename_i hlen
          simp at hk; subst hk
          obtain ⟨xs, q, _, rfl, hcl, hxl, hf⟩ := DataW.trod_array hu h
          simp only [DataW.weights, hu] at hw
          have key : ∀ (r i : Nat), i + r = m → Kinds (enc := enc) (P := P) (W := W) ((List.range r).flatMap fun _ => l) (cs.drop (i * P.cellsOf e)) := by
            intro r
            induction r with
            | zero =>
              intro i hi
              have : cs.drop (i * P.cellsOf e) = [] := List.drop_eq_nil_of_le (by rw [hcl, ← hlen.2, show i = m by omega]; exact Nat.le_refl _)
              rw [this]
              exact ⟨rfl, fun j v k hj => by simp at hj⟩
            | succ r ihr =>
              intro i hi
              have hlt : i < xs.length := by omega
              have ht := hf i (by omega)
              rw [List.getElem?_eq_getElem hlt] at ht
              have hk1 := ih q e l _ _ hl ht (all_sub hw (fun y hy => weightsAll_mem (d := xs[i].1) (List.mem_map.2 ⟨xs[i], List.getElem_mem hlt, rfl⟩) y hy))
              have hr : (List.range (r + 1)).flatMap (fun _ => l) = l ++ (List.range r).flatMap (fun _ => l) := by
                rw [List.range_succ_eq_map, List.flatMap_cons, List.flatMap_map]
              rw [hr]
              rw [← hlen.1] at hk1
              refine Kinds.app (by rw [← hlen.1]; exact hk1) ?_
              rw [List.drop_drop, ← hlen.1]
              have := ihr (i + 1) (by omega)
              rw [← hlen.1, Nat.add_mul, Nat.one_mul] at this
              exact this
          have := key m 0 (by omega)
          simpa using this
        · cases hk
      | _ => cases hk

theorem cells_get (q : Raw) : ∀ (ks : List K1) (i j : Nat) (k : K1), ks[j]? = some k → (q.cells ks i)[j]? = some (q.at (i + j) k)
  | [], i, j, k, h => by simp at h
  | k0 :: ks, i, 0, k, h => by simp at h; subst h; rfl
  | k0 :: ks, i, j + 1, k, h => by
    have := cells_get q ks (i + 1) j k (by simpa using h)
    simp only [Raw.cells, List.getElem?_cons_succ, this]
    rw [show i + 1 + j = i + (j + 1) by omega]

/-- All about a plain struct's cells. -/
def Fine (enc : TypeId × Value → H) (P : Program) (W : World) (ks : List K1) (q : Raw) : Prop := ∀ (j : Nat) (k : K1), ks[j]? = some k → KOk enc P W k (q.at j k)

theorem kinds_raw {ks : List K1} {cs : List Value} (h : Kinds (enc := enc) (P := P) (W := W) ks cs) : ∃ q : Raw, cs = q.cells ks 0 ∧ Fine enc P W ks q := by
  obtain ⟨q, hq, _⟩ := raw_of ks 0 cs h.1 fun j v k hj hk => (h.2 j v k hj hk).1
  refine ⟨q, hq, fun j k hk => ?_⟩
  have := cells_get q ks 0 j k hk
  rw [Nat.zero_add] at this
  exact h.2 j _ k (by rw [hq]; exact this) hk

theorem Fine.int {ks : List K1} {q : Raw} (h : Fine enc P W ks q) {j : Nat} {k : IntKind} (hk : ks[j]? = some (.i k)) : k.has (q.x j) := by
  obtain ⟨n, h1, h2⟩ := (h j _ hk).1
  simp only [Raw.at, Value.int.injEq, true_and] at h1
  rw [h1]; exact h2
theorem Fine.str {ks : List K1} {q : Raw} (h : Fine enc P W ks q) {j : Nat} (hk : ks[j]? = some .s) : (q.y j).size ≤ reachBytes := (h j _ hk).2.1 _ rfl
theorem Fine.rd {ks : List K1} {q : Raw} (h : Fine enc P W ks q) {j : Nat} {t : TypeId} (hk : ks[j]? = some (.sl t)) : RdT enc P W t (q.v j) := (h j _ hk).2.2 t rfl
theorem Fine.slv {ks : List K1} {q : Raw} (h : Fine enc P W ks q) {j : Nat} {t : TypeId} (hk : ks[j]? = some (.sl t)) : (q.v j).oneCell' = true := by
  obtain ⟨a, n, c, e⟩ := (h j _ hk).1
  simp only [Raw.at] at e
  rw [e]; rfl

theorem choose_le {α : Type} {p : Nat → α → Prop} (d : α) : ∀ n, (∀ i, i < n → ∃ x, p i x) → ∃ f : Nat → α, ∀ i, i < n → p i (f i)
  | 0, _ => ⟨fun _ => d, fun i h => by omega⟩
  | n + 1, h => by
    obtain ⟨f, hf⟩ := choose_le d n fun i hi => h i (by omega)
    obtain ⟨x, hx⟩ := h n (by omega)
    refine ⟨fun i => if i = n then x else f i, fun i hi => ?_⟩
    by_cases e : i = n
    · subst e; simpa using hx
    · simp only [e, if_false]; exact hf i (by omega)

theorem flats_get {z : Nat} {n : Nat} {g : Nat → GV} (hz : ∀ i, i < n → (GV.flat (g i)).length = z) {j : Nat} {v : Value} (h : (flats ((List.range n).map g))[j]? = some v) : ∃ i k, i < n ∧ j = i * z + k ∧ k < z ∧ (GV.flat (g i))[k]? = some v := by
  have key : ∀ (r b j : Nat), b + r = n → (flats ((List.range' b r).map g))[j]? = some v → ∃ i k, i < n ∧ j + b * z = i * z + k ∧ k < z ∧ (GV.flat (g i))[k]? = some v := by
    intro r
    induction r with
    | zero => intro b j _ h; simp [flats] at h
    | succ r ih =>
      intro b j hb h
      have e : flats ((List.range' b (r + 1)).map g) = GV.flat (g b) ++ flats ((List.range' (b + 1) r).map g) := by simp [List.range'_succ, flats]
      rw [e] at h
      have hl := hz b (by omega)
      rcases Nat.lt_or_ge j (GV.flat (g b)).length with hj | hj
      · rw [List.getElem?_append_left hj] at h
        exact ⟨b, j, by omega, by omega, by omega, h⟩
      · rw [List.getElem?_append_right hj] at h
        obtain ⟨i, k, h1, h2, h3, h4⟩ := ih (b + 1) _ (by omega) h
        refine ⟨i, k, h1, ?_, h3, h4⟩
        rw [Nat.add_mul, Nat.one_mul] at h2
        omega
  rw [List.range_eq_range'] at h
  obtain ⟨i, k, h1, h2, h3, h4⟩ := key n 0 j (by omega) h
  exact ⟨i, k, h1, by omega, h3, h4⟩

/-- A slice of plain structs. -/
theorem rd_slice {t e : TypeId} {n0 : Nat} {ks : List K1} {v : Value} {g : Raw → GV} (ht : P.underlying t = some (.slice e)) (hk : kAll P n0 e = some ks) (hn : ks.length = P.cellsOf e) (h0 : 0 < P.cellsOf e) (hflat : ∀ q, (g q).flat = q.cells ks 0)
    (hok : ∀ q, (∀ j t', ks[j]? = some (.sl t') → (q.v j).oneCell' = true) → (g q).ok) (hsz : ∀ q, (g q).sz = P.cellsOf e) (h : RdT enc P W t v) :
    ∃ l : List Raw, SlR W.ph v (P.cellsOf e) (l.map g) ∧ l.length * P.bytesOf e ≤ reachBytes ∧ ∀ q ∈ l, Fine enc P W ks q := by
  obtain ⟨fuel, x, hx, hw⟩ := h
  rcases Go.Deep.open_slice ht hx with ⟨hv, rfl⟩ | ⟨a, len, cap, m, n, D, Pl, hv, _, hlc, _, hm, rfl, hel⟩
  · simp at hv; subst hv
    exact ⟨[], ⟨fun x hx => by simp at hx, .inl ⟨rfl, rfl⟩⟩, by simp, fun q hq => by simp at hq⟩
  · simp at hv; subst hv
    simp only [if_true] at hm
    subst hm
    simp only [DataW.weights, ht, List.all_cons, Bool.and_eq_true, decide_eq_true_eq, List.length_map, List.length_range] at hw
    obtain ⟨q, hq⟩ := choose_le (p := fun i q => W.cells? 0 (a.add (i * P.cellsOf e)) (P.cellsOf e) = some (Raw.cells q ks 0) ∧ Fine enc P W ks q) ⟨fun _ => 0, fun _ => ⟨#[]⟩, fun _ => false, fun _ => undef⟩ len fun i hi => by
      obtain ⟨cs', h1, h2⟩ := hel i (by omega)
      have hw' : ((D i).weights P e).all (· ≤ reachBytes) = true := all_sub hw.2 fun y hy => by
        refine List.mem_append_left _ (weightsAll_mem (d := D i) ?_ y hy)
        exact List.mem_map.2 ⟨i, List.mem_range.2 hi, rfl⟩
      obtain ⟨q, hq, hf⟩ := kinds_raw (trod_kinds n0 n e ks cs' _ hk h2 hw')
      exact ⟨q, by rw [← hq]; exact h1, hf⟩
    refine ⟨(List.range len).map q, ⟨fun y hy => ?_, ?_⟩, ?_, fun y hy => ?_⟩
    · rw [List.map_map] at hy
      obtain ⟨i, hi, rfl⟩ := List.mem_map.1 hy
      exact ⟨hok _ fun j t' hj => (hq i (List.mem_range.1 hi)).2.slv hj, hsz _⟩
    · refine .inr ⟨a, m, by simp, by simpa using hlc, fun hc => ?_⟩
      obtain ⟨cs0, h1, _⟩ := hel 0 hc
      obtain ⟨_, hl0, hc0⟩ := World.cells?_some h1
      have hblk : ∃ cs e' fz, a.spot = none ∧ W.heap[a.block]? = some (.cells cs e' fz) := by
        have h2 := hc0 0 h0
        rw [List.getElem?_eq_getElem (by omega)] at h2
        have hab : (a.add (0 * P.cellsOf e)).add 0 = a := by simp [Addr.add]
        rw [hab] at h2
        unfold World.cell? at h2
        split at h2
        · rename_i c ty fz hb
          split at h2
          · cases h2
          · rename_i hs
            exact ⟨c, ty, fz, by simpa using hs, hb⟩
        · cases h2
      obtain ⟨cs, e', fz, hsp, hb⟩ := hblk
      refine ⟨cs, e', fz, hsp, hb, fun j v hj => ?_⟩
      rw [List.map_map] at hj
      obtain ⟨i, k, hi, rfl, hkz, hv⟩ := flats_get (z := P.cellsOf e) (g := g ∘ q) (fun i hi => by
        simp only [Function.comp, hflat]
        have := (hq i hi).1
        obtain ⟨_, hl, _⟩ := World.cells?_some this
        exact hl) hj
      obtain ⟨h1, _⟩ := hq i hi
      obtain ⟨_, hl, hc⟩ := World.cells?_some h1
      have h2 := hc k hkz
      simp only [Function.comp, hflat] at hv
      rw [hv] at h2
      unfold World.cell? at h2
      obtain ⟨b, o, sp⟩ := a
      simp only at hsp hb
      subst hsp
      rw [addr_add, addr_add] at h2
      simp only [hb] at h2
      simpa [Nat.add_assoc] using h2
    · simp only [List.length_map, List.length_range]
      have := hw.1
      have : len * P.bytesOf e ≤ (len + (m - len)) * P.bytesOf e := Nat.mul_le_mul_right _ (by omega)
      omega
    · obtain ⟨i, hi, rfl⟩ := List.mem_map.1 hy
      exact (hq i (List.mem_range.1 hi)).2

/-! ### A law's arguments -/
/-- An argument that reads. -/
def RdV (enc : TypeId × Value → H) (P : Program) (W : World) (t : TypeId) (v : Value) : Prop := ∃ fuel x, DataW.trod enc P W 0 (fun _ => true) true fuel t v.cells.toList = some x ∧ (x.1.weights P t).all (· ≤ reachBytes) = true

theorem cells_one {v w : Value} (h : v.cells.toList = [w]) (hv : ∀ cs, v ≠ .agg cs) : v = w := by
  cases v <;> first | (simpa [Value.cells] using h) | exact absurd rfl (hv _)

theorem ok_noagg {base : Nat} {t : TypeId} {v : Value} {d : TypeDesc} (hu : P.underlying t = some d) (hd : agDo (some d) = false) (hv : Value.okWide P W .any base t v) : ∀ cs, v ≠ .agg cs := by
  intro cs e
  subst e
  unfold Value.okWide at hv
  rw [hu] at hv
  cases d <;> first | (cases hd; done) | (simp only [Cell.okWide, Cell.ok, hu] at hv)

/-- A slice as an argument. -/
theorem rdv_slice {base : Nat} {t e : TypeId} {v : Value} (ht : P.underlying t = some (.slice e)) (h : RdV enc P W t v) (hv : Value.okWide P W .any base t v) : RdT enc P W t v := by
  obtain ⟨fuel, x, hx, hw⟩ := h
  have hcs : ∃ w, v.cells.toList = [w] := by
    rcases DataW.trod_slice ht hx with ⟨h1, _⟩ | ⟨a, len, cap, _, _, _, _, h1, _⟩
    · exact ⟨_, h1⟩
    · exact ⟨_, h1⟩
  obtain ⟨w, hc⟩ := hcs
  have := cells_one hc (ok_noagg ht rfl hv)
  subst this
  exact ⟨fuel, x, by rw [← hc]; exact hx, hw⟩
end
end Go.Proofs.YtmjiojflncffeaaGreat.Vc

/- A law's row out of its contract. -/
set_option linter.unusedVariables false
set_option linter.unusedSimpArgs false
namespace Go.Proofs.YtmjiojflncffeaaGreat.Vc
open Go Go.ChangeShapes Go.WideShapes Go.ChangeAt

theorem trodAll_len {H : Type} {enc : TypeId × Value → H} {P : Program} {W : World} : ∀ {ts : List TypeId} {vs : List Value} {ds : List (DataW H)} {ps : List MemPlace}, DataW.TrodAll enc P W 0 (fun _ => true) true ts vs ds ps → ds.length = ts.length
  | [], vs, ds, ps, h => by
    match vs, ds, h with
    | [], [], _ => rfl
  | t :: ts, vs, ds, ps, h => by
    obtain ⟨v, vs', d, ds', p, q, rfl, rfl, rfl, _, h4⟩ := trodAll_cons h
    simp [trodAll_len h4]

end Go.Proofs.YtmjiojflncffeaaGreat.Vc

/- A law's row out of its contract, where what is read is of bounded bulk; over listed variables. -/
set_option linter.unusedVariables false
set_option linter.unusedSimpArgs false
namespace Go.Proofs.YtmjiojflncffeaaGreat.Vc
open Go Go.Proofs Go.Proofs.YtmjiojflncffeaaGreat Go.ChangeShapes Go.WideShapes Go.ChangeAt

section
variable {H : Type} {enc : TypeId × Value → H} {P : Program} {W : World}

theorem bulk_one_le (d : DataW H) : 1 ≤ Rows.uptoBulk d := by
  cases d with
  | lit l => cases l <;> simp [Rows.uptoBulk]
  | _ => simp [Rows.uptoBulk]
/-- An argument that reads, of so much bulk. -/
def RdB (enc : TypeId × Value → H) (P : Program) (W : World) (t : TypeId) (v : Value) (n : Nat) : Prop := ∃ fuel x, DataW.trod enc P W 0 (fun _ => true) true fuel t v.cells.toList = some x ∧ (x.1.weights P t).all (· ≤ reachBytes) = true ∧ Rows.uptoBulk x.1 = n
def RdBs (enc : TypeId × Value → H) (P : Program) (W : World) (base : Nat) : List TypeId → List Value → Nat → Prop
  | [], [], _ => True
  | t :: ts, v :: vs, n => ∃ a b, a + b ≤ n ∧ (RdB enc P W t v a ∧ Value.okWide P W .any base t v) ∧ RdBs enc P W base ts vs b
  | _, _, _ => False
theorem RdB.v {t : TypeId} {v : Value} {n : Nat} (h : RdB enc P W t v n) : RdV enc P W t v := by
  obtain ⟨fuel, x, h1, h2, _⟩ := h
  exact ⟨fuel, x, h1, h2⟩

theorem args_rdb {base : Nat} : ∀ {ts : List TypeId} {vs : List Value} {ds : List (DataW H)} {ps : List MemPlace} {n : Nat}, (∀ (j : Nat) t v, ts[j]? = some t → vs[j]? = some v → Value.okWide P W .any base t v) →
    DataW.TrodAll enc P W 0 (fun _ => true) true ts vs ds ps → (DataW.weightsEach P ts ds).all (· ≤ reachBytes) = true → Rows.uptoBulkAll ds ≤ n → RdBs enc P W base ts vs n
  | [], vs, ds, ps, n, _, h, _, _ => by
    match vs, ds, h with
    | [], [], _ => trivial
  | t :: ts, vs, ds, ps, n, hv, h, hw, hn => by
    obtain ⟨v, vs', d, ds', p, q, rfl, rfl, rfl, ⟨fuel, h3⟩, h4⟩ := trodAll_cons h
    simp only [DataW.weightsEach, List.all_append, Bool.and_eq_true] at hw
    simp only [Rows.uptoBulkAll] at hn
    exact ⟨Rows.uptoBulk d, Rows.uptoBulkAll ds', hn, ⟨⟨fuel, _, h3, hw.1, rfl⟩, hv 0 t v rfl rfl⟩, args_rdb (fun j t v h1 h2 => hv (j + 1) t v (by simpa using h1) (by simpa using h2)) h4 hw.2 (Nat.le_refl _)⟩

theorem rdbs_cons {base : Nat} {t : TypeId} {ts : List TypeId} {vs : List Value} {n : Nat} (h : RdBs enc P W base (t :: ts) vs n) : ∃ v vs' a b, vs = v :: vs' ∧ a + b ≤ n ∧ RdB enc P W t v a ∧ Value.okWide P W .any base t v ∧ RdBs enc P W base ts vs' b := by
  cases vs with
  | nil => exact h.elim
  | cons v vs =>
    obtain ⟨a, b, h1, h2, h3⟩ := h
    exact ⟨v, vs, a, b, rfl, h1, h2.1, h2.2, h3⟩
theorem rdbs_nil {base : Nat} {vs : List Value} {n : Nat} (h : RdBs enc P W base [] vs n) : vs = [] := by
  cases vs with
  | nil => rfl
  | cons v vs => exact h.elim

end

theorem law_lifted_upto {C : Checked} {os : Os} {f : FuncId} {fn : Func} {s : ChangeSpec} {H : Type} {enc : TypeId × Value → H} {tb : TypeId} {ts : List TypeId} {laid : List (String × DataW Unit)} {F : Stop.Interp}
    (own : ownKnob C.prog.godebug = none) (hl : laidOutB C.prog = true) (started : os.Started) (noInit : C.prog.inits.idxOf? f = none) (hfn : C.prog.funcs[f]? = some fn)
    (witness : ∃ (w : World) (tape : Tape) (i : Input), w.os = os ∧ (w.forCall tape i).Shaped C.prog ∧ i.vars = [] ∧ Input.okWide C.prog (w.forCall tape i) .any w.heap.size f i ∧
      (Rows.OpenSpec.upto s).preRow enc C.prog fn [] false laid (w.forCall tape i).memory i.args ∧ ({} : Assume).holds C.prog (lone (Frame.enter C.prog f i.args .normal) [] (w.forCall tape i)))
    (hr : (fn.params.toList.all fun t => C.prog.readableRec t && decide (t < C.prog.types.size)) = true) (hv : s.vars = []) (hres : fn.resultTypes = #[tb]) (htb : C.prog.underlying tb = some .bool)
    (hts : fn.params.toList = ts) (hs : ∀ ds : List (DataW H), ds.length = ts.length → s.fn H ds = { results := [.lit (.bool true)], args := ds })
    (h : ∀ W base vs, RdBs enc C.prog W base ts vs 1048576 → W.ShapedOpen C.prog → Spec C.prog f vs PH.no W fun rs _ => rs = [.s (.bool true)]) :
    ReturnsInHanded {} C os f .any ((Rows.OpenSpec.upto s).preRow enc C.prog fn [] false laid) (((Rows.OpenSpec.upto s).at F).post enc C.prog fn false true false false) := by
  refine returnsInHanded_of_row (C := C) (s := Rows.OpenSpec.upto s) own started noInit hfn witness ?_
  intro W base args ds gs before hval hW _ hcond hwt _ hsh _
  have hW' := hW
  obtain ⟨p, q, hA, hV, rfl, hfz, hnd⟩ := hW'
  have hv' : (Rows.OpenSpec.upto s).vars = [] := hv
  rw [hv'] at hV
  obtain ⟨rfl, rfl⟩ := trodVars_none hV
  have hvt : (Rows.OpenSpec.upto s).bare.plain.varTypes C.prog = [] := by
    have : (Rows.OpenSpec.upto s).bare.plain.vars = [] := hv
    simp [DataSpec.varTypes, this]
  rw [hvt, List.append_nil, List.append_nil] at hwt
  have hk := of_decide_eq_true (hcond _ rfl)
  rw [List.append_nil] at hk
  have hlen := trodAll_len hA
  exact (contract_true (s := s) (again := false) hl hr hv hres htb (by rw [List.append_nil]; exact hs ds (by rw [hlen, hts])) hW (h W base args.toList (hts ▸ args_rdb (fun j t v h1 h2 => hval j t v (by simpa using h1) (by simpa using h2)) hA hwt hk) hsh)).mono fun e W' ⟨v, h1, h2, _⟩ => ⟨v, h1, h2⟩
end Go.Proofs.YtmjiojflncffeaaGreat.Vc

/- Lists of operations that came in. -/
set_option linter.unusedVariables false
set_option linter.unusedSimpArgs false
set_option maxRecDepth 100000
namespace Go.Proofs.YtmjiojflncffeaaGreat.Vc
open Go Go.Proofs Go.Proofs.YtmjiojflncffeaaGreat Go.ChangeShapes Go.WideShapes Go.ChangeAt

def OpOk (op : Op) : Prop := (Lit.int .i64 op.node).wf = true ∧ op.name.size ≤ 140737488355328
def Stamp.ofRaw (q : Raw) (o : Nat) : Stamp := ⟨q.x o, q.x (o + 1)⟩
def kStamp : List K1 := [.i .i64] ++ ([.i .i64])
theorem kStamp_len : kStamp.length = 2 := rfl
theorem gStamp_flat (q : Raw) (o : Nat) : GV.flat (gStamp (Stamp.ofRaw q o)) = q.cells kStamp o := by
  simp only [gStamp, Stamp.ofRaw, kStamp, GV.flat, cells_append, List.length_append, List.length_cons, List.length_nil, kVec_len, kVec2_len, gVec_flat, gVec2_flat]
  simp [Raw.cells, Raw.at, Nat.add_assoc]
def Op.ofRaw (q : Raw) (o : Nat) : Op := ⟨Stamp.ofRaw q o, q.x (o + 2), q.x (o + 3), q.x (o + 4), q.y (o + 5), q.y (o + 6), q.y (o + 7)⟩
def kOp : List K1 := kStamp ++ ([.i .i64] ++ ([.i .i64] ++ ([.i .i64] ++ ([.s] ++ ([.s] ++ ([.s]))))))
theorem gOp_flat (q : Raw) (o : Nat) : GV.flat (gOp (Op.ofRaw q o)) = q.cells kOp o := by
  simp only [gOp, Op.ofRaw, kOp, GV.flat, cells_append, List.length_append, List.length_cons, List.length_nil, kVec_len, kVec2_len, kStamp_len, gVec_flat, gVec2_flat, gStamp_flat]
  simp [Raw.cells, Raw.at, Nat.add_assoc]


theorem Try_own : ownKnob Tryz.prog.godebug = none := by kernel_rfl
theorem Try_laidOut : laidOutB Tryz.prog = true := by kernel_rfl
theorem cells_Op : Tryz.prog.cellsOf 26 = 8 := by kernel_rfl

theorem bulk_len {H : Type} (l : List (DataW H)) : l.length ≤ Rows.uptoBulkAll l := by
  induction l with
  | nil => simp
  | cons x l ih => have := bulk_one_le x; simp only [Rows.uptoBulkAll, List.length_cons]; omega

end Go.Proofs.YtmjiojflncffeaaGreat.Vc

/- Does a node come under the root? -/
set_option linter.unusedVariables false
set_option linter.unusedSimpArgs false
set_option maxRecDepth 100000
namespace Go.Proofs.YtmjiojflncffeaaGreat.Vc
open Go Go.Proofs

def T1 : PT := ⟨[(1, ⟨0, ⟨#[]⟩, [], [5]⟩), (2, PN.bare), (5, ⟨1, ⟨#[97]⟩, [], []⟩)], [1], 1⟩
end Go.Proofs.YtmjiojflncffeaaGreat.Vc

/- The code of some functions of the program, its types resolved: printed by a program of this claim. -/
set_option linter.unusedVariables false
set_option maxRecDepth 100000
namespace Go.Proofs.YtmjiojflncffeaaGreat.Vc
open Go Go.Proofs

end Go.Proofs.YtmjiojflncffeaaGreat.Vc

/- A tree by operations. -/
set_option linter.unusedVariables false
set_option linter.unusedSimpArgs false
set_option maxRecDepth 100000
namespace Go.Proofs.YtmjiojflncffeaaGreat.Vc
open Go Go.Proofs

end Go.Proofs.YtmjiojflncffeaaGreat.Vc

/- TreeBack, the walk. -/
set_option linter.unusedVariables false
set_option linter.unusedSimpArgs false
set_option maxRecDepth 100000
namespace Go.Proofs.YtmjiojflncffeaaGreat.Vc
open Go Go.Proofs

theorem Hist.cut {mk : Value} {Ts T' : PT} {us : List Undo} {r : Nat} (h : Hist mk Ts (us.take r) T') (h0 : 0 < r) (hr : r ≤ us.length) :
    ∃ T'' op, Hist mk Ts (us.take (r - 1)) T'' ∧ mayA T'' op = true ∧ (∃ k, T''.ok k) ∧ us.getD (r - 1) zUndo = T''.undo mk op ∧ T' = T''.does op := by
  have e : us.take r = us.take (r - 1) ++ [us.getD (r - 1) zUndo] := by
    obtain ⟨k, rfl⟩ : ∃ k, r = k + 1 := ⟨r - 1, by omega⟩
    rw [List.take_add_one, Nat.add_sub_cancel, List.getD_eq_getElem?_getD, List.getElem?_eq_getElem (by omega)]
    rfl
  rw [e] at h
  exact h.last
theorem Hist.top {mk : Value} {Ts T' : PT} {us : List Undo} {r : Nat} (h : Hist mk Ts (us.take r) T') (h0 : 0 < r) (hr : r ≤ us.length) :
    T'.ids.getLast? = some (us.getD (r - 1) zUndo).ix ∧ T'.last = (us.getD (r - 1) zUndo).ix := by
  obtain ⟨T'', op, _, _, _, e1, rfl⟩ := h.cut h0 hr
  rw [e1, undo_ix, does_ids, does_last]
  simp

theorem undone_ids (B : PT) (u : Undo) : (B.undone u).ids = B.ids.dropLast := by
  unfold PT.undone
  simp only
  split
  · rfl
  · split
    · rw [put_ids]
    · rfl
theorem back_safe {T B : PT} {op : Op} {k : Nat} (hm : mayA T op = true) (hT : T.ok k) (hv : B.view = (T.does op).view) : (op.kind = 1 → ∃ x, B.get op.parent = some x) ∧ (op.kind ≠ 1 → ∃ x, B.get op.node = some x) := by
  refine ⟨fun k1 => ?_, fun k1 => ?_⟩
  · obtain ⟨hn, x, hx⟩ := may_make hm k1
    have hne : op.parent ≠ op.node := fun e => by rw [e, hn] at hx; cases hx
    have : B.view op.parent = some x.view := by
      rw [hv, does_view1 hm k1]
      simp only [updV, if_neg hne]
      exact PT.view_get hx
    obtain ⟨y, hy, _⟩ := get_of_view this
    exact ⟨y, hy⟩
  · obtain ⟨x, hx⟩ := may_there hm k1
    by_cases k2 : op.kind = 2
    · obtain ⟨a, this⟩ : ∃ a, B.view op.node = some a := ⟨_, by rw [hv, does_view2 hx k2]; exact if_pos rfl⟩
      obtain ⟨y, hy, _⟩ := get_of_view this
      exact ⟨y, hy⟩
    · obtain ⟨a, this⟩ : ∃ a, B.view op.node = some a := ⟨_, by rw [hv, does_view3 hx (hT.attrs _ _ hx).1 k1 k2]; exact if_pos rfl⟩
      obtain ⟨y, hy, _⟩ := get_of_view this
      exact ⟨y, hy⟩

theorem nodesTold_len (T : PT) : (nodesTold T).length ≤ T.nodes.length := by
  refine Nat.le_trans (List.length_filter_le _ _) (Nat.le_trans (List.length_filterMap_le _ _) ?_)
  simp [nodesK, sortZ]
theorem nodesTold_few {T : PT} {k : Nat} (h : T.ok k) {t : TN} (ht : t ∈ nodesTold T) : t.attrs.length ≤ k := by
  have h1 := (List.mem_filter.1 ht).1
  obtain ⟨n, _, h2⟩ := List.mem_filterMap.1 h1
  cases hx : T.get n with
  | none => rw [hx] at h2; cases h2
  | some x =>
    rw [hx] at h2
    obtain rfl : toldOf n x = t := by simpa using h2
    have := (h.attrs n x hx).2
    simpa [toldOf, attrsOf, attrKeys, sortB] using this

end Go.Proofs.YtmjiojflncffeaaGreat.Vc

/- A log, plain: the tree of a list of operations, and how what was done is taken back. -/
set_option linter.unusedVariables false
set_option linter.unusedSimpArgs false
namespace Go.Proofs.YtmjiojflncffeaaGreat.Vc
open Go Go.Proofs

/-- An operation, done if it may be. -/
def PT.step (T : PT) (op : Op) : PT := if mayA T op then T.does op else T
theorem step_yes {T : PT} {op : Op} (h : mayA T op = true) : T.step op = T.does op := if_pos h
theorem step_no {T : PT} {op : Op} (h : mayA T op = false) : T.step op = T := by rw [PT.step, h]; rfl
/-- The tree of some operations. -/
def ideal (B : PT) (l : List Op) : PT := l.foldl PT.step B
theorem ideal_cons (B : PT) (op : Op) (l : List Op) : ideal B (op :: l) = ideal (B.step op) l := rfl
theorem ideal_snoc (B : PT) (l : List Op) (op : Op) : ideal B (l ++ [op]) = (ideal B l).step op := by simp [ideal, List.foldl_append]
theorem ideal_app (B : PT) (a b : List Op) : ideal B (a ++ b) = ideal (ideal B a) b := List.foldl_append
theorem step_ok {T : PT} {k : Nat} {op : Op} (h : T.ok k) (ho : OpOk op) : (T.step op).ok (k + 1) := by
  cases hm : mayA T op with
  | false => rw [step_no hm]; exact h.up (by omega)
  | true => rw [step_yes hm]; exact does_ok h hm ho.1
theorem ideal_ok : ∀ {l : List Op} {B : PT} {k : Nat}, B.ok k → (∀ op ∈ l, OpOk op) → (ideal B l).ok (k + l.length)
  | [], _, _, h, _ => h
  | op :: l, B, k, h, ho => by
    have := ideal_ok (step_ok h (ho op (by simp))) fun x hx => ho x (List.mem_cons_of_mem _ hx)
    rw [ideal_cons]
    exact this.up (by simp only [List.length_cons]; omega)
theorem step_good {T : PT} {k : Nat} {op : Op} (hg : VGood T.view) (h : T.ok k) : VGood (T.step op).view := by
  cases hm : mayA T op with
  | false => rw [step_no hm]; exact hg
  | true => rw [step_yes hm]; exact does_good hg h hm
theorem ideal_good : ∀ {l : List Op} {B : PT} {k : Nat}, B.ok k → VGood B.view → (∀ op ∈ l, OpOk op) → VGood (ideal B l).view
  | [], _, _, _, hg, _ => hg
  | op :: l, B, k, h, hg, ho => by
    rw [ideal_cons]
    exact ideal_good (step_ok h (ho op (by simp))) (step_good hg h) fun x hx => ho x (List.mem_cons_of_mem _ hx)
theorem may_eq {T T' : PT} {k k' : Nat} (h : T.ok k) (h' : T'.ok k') (hv : T.view = T'.view) (op : Op) : mayA T op = mayA T' op := mayA_view hv (told_eq h h' hv).2 op
/-- How big a tree is hangs on its view, but for its count. -/
theorem ok_of_view {T I : PT} {k j q : Nat} (h : T.ok k) (hI : I.ok j) (hv : T.view = I.view) (hj : j ≤ q) (hl : T.last ≤ q) (hi : T.ids.length ≤ q) : T.ok q := by
  refine ⟨h.nod, ?_, h.last0, hl, hi, h.keys, fun n x hx => ?_⟩
  · have := hI.many
    have := (told_eq h hI hv).2
    omega
  · have e : I.view n = some x.view := by rw [← hv]; exact PT.view_get hx
    obtain ⟨y, hy, hyv⟩ := get_of_view e
    have e2 : getS x.attrs = getS y.attrs := (congrArg AN.attr hyv).symm
    have h1 := (h.attrs n x hx).1
    have h2 := hI.attrs n y hy
    have := (keys_perm h1 h2.1 e2).length_eq
    rw [List.length_map, List.length_map] at this
    exact ⟨h1, by omega⟩

theorem undone_last (T : PT) (u : Undo) : (T.undone u).last = T.last := by
  unfold PT.undone
  simp only
  split
  · rfl
  · split
    · rw [put_last]
    · rfl

/-- What is held of operations that were done, one behind the other. -/
inductive LHist (mk : Value) (B : PT) (i0 : List Int) : List Done → List Int → Prop
  | nil : LHist mk B i0 [] i0
  | no {ds : List Done} {ids : List Int} {op : Op} : LHist mk B i0 ds ids → mayA (ideal B (ds.map (·.op))) op = false → LHist mk B i0 (ds ++ [⟨op, false, zUndo⟩]) ids
  | yes {ds : List Done} {T : PT} {k : Nat} {op : Op} : LHist mk B i0 ds T.ids → mayA (ideal B (ds.map (·.op))) op = true → T.ok k → T.view = (ideal B (ds.map (·.op))).view → mayA T op = true → LHist mk B i0 (ds ++ [⟨op, true, T.undo mk op⟩]) (T.ids ++ [T.last + 1])

theorem LHist.last {mk : Value} {B : PT} {i0 ids : List Int} {ds : List Done} {d : Done} (h : LHist mk B i0 (ds ++ [d]) ids) :
    (d.taken = false ∧ d.undo = zUndo ∧ LHist mk B i0 ds ids ∧ mayA (ideal B (ds.map (·.op))) d.op = false) ∨
    (d.taken = true ∧ mayA (ideal B (ds.map (·.op))) d.op = true ∧ ∃ T k, T.ok k ∧ T.view = (ideal B (ds.map (·.op))).view ∧ mayA T d.op = true ∧ d.undo = T.undo mk d.op ∧ LHist mk B i0 ds T.ids ∧ ids = T.ids ++ [T.last + 1]) := by
  generalize hl : ds ++ [d] = l at h
  cases h with
  | nil => simp at hl
  | no h hm =>
    obtain ⟨rfl, e⟩ := List.append_inj' hl rfl
    cases e
    exact .inl ⟨rfl, rfl, h, hm⟩
  | yes h hm hk hv ht =>
    obtain ⟨rfl, e⟩ := List.append_inj' hl rfl
    cases e
    exact .inr ⟨rfl, hm, _, _, hk, hv, ht, rfl, h, rfl⟩
/-- Whether an operation is taken. -/
theorem LHist.taken {mk : Value} {B : PT} {i0 ids : List Int} {ds : List Done} {d : Done} (h : LHist mk B i0 (ds ++ [d]) ids) : d.taken = mayA (ideal B (ds.map (·.op))) d.op := by
  rcases h.last with ⟨h1, _, _, h2⟩ | ⟨h1, h2, _⟩ <;> rw [h1, h2]
theorem LHist.isof {mk : Value} {B : PT} {i0 ids : List Int} {ds : List Done} (h : LHist mk B i0 ds ids) : ∀ d ∈ ds, d.undo.of = .pointer none ∨ d.undo.of = mk := by
  induction h with
  | nil => simp
  | no _ _ ih =>
    intro d hd
    rcases List.mem_append.1 hd with hd | hd
    · exact ih d hd
    · rw [List.mem_singleton.1 hd]; exact .inl rfl
  | yes _ _ _ _ _ ih =>
    intro d hd
    rcases List.mem_append.1 hd with hd | hd
    · exact ih d hd
    · rw [List.mem_singleton.1 hd]; exact .inr (undo_of _ _ _)
/-- All but some of the first. -/
theorem LHist.drop {mk : Value} {B : PT} {i0 ids : List Int} {a : List Done} : ∀ {b : List Done}, LHist mk B i0 (a ++ b) ids → ∃ i1, LHist mk B i0 a i1 ∧ LHist mk (ideal B (a.map (·.op))) i1 b ids := by
  intro b
  generalize hl : a ++ b = l
  intro h
  induction h generalizing b with
  | nil =>
    obtain ⟨rfl, rfl⟩ : a = [] ∧ b = [] := by simpa using hl
    exact ⟨i0, .nil, .nil⟩
  | @no ds ids op h hm ih =>
    rcases List.eq_nil_or_concat b with rfl | ⟨b', d, rfl⟩
    · rw [List.append_nil] at hl
      subst hl
      exact ⟨ids, .no h hm, .nil⟩
    · rw [List.concat_eq_append, ← List.append_assoc] at hl
      obtain ⟨h1, h2⟩ := List.append_inj' hl rfl
      cases h2
      obtain ⟨i1, g1, g2⟩ := ih h1
      refine ⟨i1, g1, ?_⟩
      rw [List.concat_eq_append]
      refine .no g2 ?_
      rw [← ideal_app, ← List.map_append, h1]
      exact hm
  | @yes ds T k op h hm hk hv ht ih =>
    rcases List.eq_nil_or_concat b with rfl | ⟨b', d, rfl⟩
    · rw [List.append_nil] at hl
      subst hl
      exact ⟨_, .yes h hm hk hv ht, .nil⟩
    · rw [List.concat_eq_append, ← List.append_assoc] at hl
      obtain ⟨h1, h2⟩ := List.append_inj' hl rfl
      cases h2
      obtain ⟨i1, g1, g2⟩ := ih h1
      refine ⟨i1, g1, ?_⟩
      rw [List.concat_eq_append]
      have e : ideal (ideal B (a.map (·.op))) (b'.map (·.op)) = ideal B (ds.map (·.op)) := by rw [← ideal_app, ← List.map_append, h1]
      exact .yes g2 (by rw [e]; exact hm) hk (by rw [e]; exact hv) ht

/-- A tree on its way: it is that of these operations. -/
structure Fl (mk : Value) (B : PT) (i0 : List Int) (q : Nat) (T : PT) (ds : List Done) : Prop where
  hist : LHist mk B i0 ds T.ids
  view : T.view = (ideal B (ds.map (·.op))).view
  ex : ∃ k, T.ok k
  last : T.last ≤ q
  ids : T.ids.length ≤ q
section
variable {mk : Value} {B T : PT} {i0 : List Int} {q kb : Nat} {ds : List Done} {d : Done}
theorem Fl.tok (h : Fl mk B i0 q T ds) (hB : B.ok kb) (ho : ∀ d ∈ ds, OpOk d.op) (hq : kb + ds.length ≤ q) : T.ok q := by
  obtain ⟨k, hk⟩ := h.ex
  exact ok_of_view hk (ideal_ok hB (by simpa using ho)) h.view (by rw [List.length_map]; exact hq) h.last h.ids
theorem Fl.up (h : Fl mk B i0 q T ds) {q' : Nat} (hq : q ≤ q') : Fl mk B i0 q' T ds := ⟨h.hist, h.view, h.ex, by have := h.last; omega, by have := h.ids; omega⟩
theorem Fl.good (h : Fl mk B i0 q T ds) (hB : B.ok kb) (hg : VGood B.view) (ho : ∀ d ∈ ds, OpOk d.op) : VGood T.view := by
  rw [h.view]
  exact ideal_good hB hg (by simpa using ho)
/-- The last one is taken back. -/
theorem Fl.back (h : Fl mk B i0 q T (ds ++ [d])) (hB : B.ok kb) (ho : ∀ d ∈ ds, OpOk d.op) :
    (d.undo = zUndo ∧ Fl mk B i0 q T ds) ∨
    (d.undo.of = mk ∧ T.ids.getLast? = some d.undo.ix ∧ ((d.undo.op.kind = 1 → ∃ x, T.get d.undo.op.parent = some x) ∧ (d.undo.op.kind ≠ 1 → ∃ x, T.get d.undo.op.node = some x)) ∧ Fl mk B i0 q (T.undone d.undo) ds) := by
  obtain ⟨k, hk⟩ := h.ex
  have hI := ideal_ok hB (l := ds.map (·.op)) (by simpa using ho)
  have hv := h.view
  rw [List.map_append, List.map_cons, List.map_nil, ideal_snoc] at hv
  rcases h.hist.last with ⟨h1, h2, h3, h4⟩ | ⟨h1, h2, W, j, h3, h4, h5, h6, h7, h8⟩
  · rw [step_no h4] at hv
    exact .inl ⟨h2, h3, hv, ⟨k, hk⟩, h.last, h.ids⟩
  · rw [step_yes h2, ← does_view h5 h3 hI h4] at hv
    refine .inr ⟨by rw [h6]; exact undo_of _ _ _, by rw [h8, h6, undo_ix]; simp, by rw [h6, undo_op]; exact back_safe h5 h3 hv, ?_⟩
    obtain ⟨g1, g2⟩ := undo_does (mk := mk) h5 h3 hk hv
    rw [h6]
    have e : (T.undone (W.undo mk d.op)).ids = W.ids := by rw [undone_ids, h8]; simp
    refine ⟨by rw [e]; exact h7, by rw [g1]; exact h4, ⟨_, g2⟩, by rw [undone_last]; exact h.last, ?_⟩
    rw [e]
    have := h.ids
    rw [h8, List.length_append] at this
    omega
/-- One more is done. -/
theorem Fl.no {op : Op} (h : Fl mk B i0 q T ds) (hB : B.ok kb) (ho : ∀ d ∈ ds, OpOk d.op) (hm : mayA T op = false) : Fl mk B i0 (q + 1) T (ds ++ [⟨op, false, zUndo⟩]) := by
  obtain ⟨k, hk⟩ := h.ex
  have hI := ideal_ok hB (l := ds.map (·.op)) (by simpa using ho)
  have hm' : mayA (ideal B (ds.map (·.op))) op = false := by rw [← may_eq hk hI h.view]; exact hm
  refine ⟨.no h.hist hm', ?_, ⟨k, hk⟩, by have := h.last; omega, by have := h.ids; omega⟩
  rw [List.map_append, List.map_cons, List.map_nil, ideal_snoc, step_no hm']
  exact h.view
theorem Fl.yes {op : Op} (h : Fl mk B i0 q T ds) (hB : B.ok kb) (ho : ∀ d ∈ ds, OpOk d.op) (hop : OpOk op) (hm : mayA T op = true) : Fl mk B i0 (q + 1) (T.does op) (ds ++ [⟨op, true, T.undo mk op⟩]) := by
  obtain ⟨k, hk⟩ := h.ex
  have hI := ideal_ok hB (l := ds.map (·.op)) (by simpa using ho)
  have hm' : mayA (ideal B (ds.map (·.op))) op = true := by rw [← may_eq hk hI h.view]; exact hm
  refine ⟨by rw [does_ids]; exact .yes h.hist hm' hk h.view hm, ?_, ⟨_, does_ok hk hm hop.1⟩, by rw [does_last]; have := h.last; omega, by rw [does_ids, List.length_append, List.length_singleton]; have := h.ids; omega⟩
  rw [List.map_append, List.map_cons, List.map_nil, ideal_snoc, step_yes hm']
  exact does_view hm hk hI h.view
end

/-- A log. -/
structure PL where
  T : PT
  B : PT
  fr : Int
  ds : List Done
  red : Int
  i0 : List Int
structure PL.good (p : PL) (mk : Value) (kb q : Nat) : Prop where
  fl : Fl mk p.B p.i0 q p.T p.ds
  bok : p.B.ok kb
  bgood : VGood p.B.view
  many : kb + p.ds.length ≤ q
  ris : Rising (p.ds.map Done.k)
  ops : ∀ d ∈ p.ds, OpOk d.op
def PL.new : PL := ⟨T0, T0, 0, [], 0, []⟩
theorem PL.new_good (mk : Value) : PL.new.good mk 0 0 := ⟨⟨.nil, rfl, ⟨0, T0_ok⟩, by decide, by decide⟩, T0_ok, T0_good, by simp [PL.new], List.Pairwise.nil, by simp [PL.new]⟩
theorem PL.good.tok {p : PL} {mk : Value} {kb q : Nat} (h : p.good mk kb q) : p.T.ok q := h.fl.tok h.bok h.ops h.many
theorem PL.good.tgood {p : PL} {mk : Value} {kb q : Nat} (h : p.good mk kb q) : VGood p.T.view := h.fl.good h.bok h.bgood h.ops
end Go.Proofs.YtmjiojflncffeaaGreat.Vc

/- A tree of rows: plain. -/
set_option linter.unusedVariables false
set_option linter.unusedSimpArgs false
namespace Go.Proofs.YtmjiojflncffeaaGreat.Vc
open Go

def leB (a b : ByteArray) : Bool := _root_.Go.Op.bytesLess a.data.toList b.data.toList || decide (a = b)
/-- Attributes that rise. -/
def attrsA : ByteArray → List Attr → Bool
  | _, [] => true
  | k, a :: l => !leB a.key k && !decide (a.value = ⟨#[]⟩) && pairB a.key a.value && attrsA a.key l
def rowA (last : Int) (r : TN) : Bool := !decide (r.node ≤ last) && (topB r.node == (decide (r.parent = 0) && decide (r.name = ⟨#[]⟩))) && (topB r.node || nameB r.name)
def PT.sure (T : PT) (n : Int) : PT := match T.get n with
  | .none => T.add n
  | .some _ => T
def PT.row (T : PT) (r : TN) : PT := (T.sure r.node).place r.node r.parent r.name
def PT.putAll (T : PT) (n : Int) (l : List Attr) : PT := l.foldl (fun T a => T.attr n a.key a.value) T
def rowsA : PT → Int → List TN → Option PT
  | T, _, [] => .some T
  | T, last, r :: l => if (rowA last r && attrsA ⟨#[]⟩ r.attrs) = true then rowsA ((T.row r).putAll r.node r.attrs) r.node l else .none

def laidA (l : List Attr) : List (ByteArray × ByteArray) := l.foldl (fun s a => setS s a.key a.value) []
def rowN (r : TN) : PN := ⟨r.parent, r.name, laidA r.attrs, []⟩
def rowGet : List TN → Int → Option PN
  | [], n => T0.get n
  | r :: l, n => if r.node = n then .some (rowN r) else rowGet l n

theorem get_sure {T : PT} {n : Int} (j : Int) : (T.sure n).get j = if j = n then .some ((T.get n).getD PN.bare) else T.get j := by
  unfold PT.sure
  cases h : T.get n with
  | none => simp only; rw [PT.get_add h]; rfl
  | some x =>
    simp only
    by_cases e : j = n
    · rw [if_pos e, e, h]; rfl
    · rw [if_neg e]
theorem get_putAll {n : Int} : ∀ (l : List Attr) (T : PT) (j : Int), (T.putAll n l).get j = if j = n then (T.get j).map fun x => { x with attrs := l.foldl (fun s a => setS s a.key a.value) x.attrs } else T.get j
  | [], T, j => by
    unfold PT.putAll
    simp
  | a :: l, T, j => by
    have ih := get_putAll (n := n) l (T.attr n a.key a.value) j
    show ((T.attr n a.key a.value).putAll n l).get j = _
    rw [ih]
    unfold PT.attr
    rw [PT.get_mod]
    by_cases e : j = n
    · simp only [e, if_true, List.foldl_cons]
      cases T.get n with
      | none => rfl
      | some x => rfl
    · simp only [e, if_false]
theorem get_row {T : PT} {r : TN} (h : ∀ x, T.get r.node = .some x → x.attrs = [] ∧ x.kids = []) (j : Int) : ((T.row r).putAll r.node r.attrs).get j = if j = r.node then .some (rowN r) else T.get j := by
  rw [get_putAll, PT.row, get_place, get_sure]
  by_cases e : j = r.node
  · simp only [e, if_true, Option.map_some, rowN, laidA, Option.some.injEq]
    cases hg : T.get r.node with
    | none => rfl
    | some x =>
      obtain ⟨h1, h2⟩ := h x hg
      simp only [Option.getD_some, h1, h2]
  · simp only [e, if_false]
theorem rowA_last {last : Int} {r : TN} (h : rowA last r = true) : last < r.node := by
  simp only [rowA, Bool.and_eq_true, Bool.not_eq_true', decide_eq_false_iff_not] at h
  omega
theorem rowsA_cons {T T' : PT} {last : Int} {r : TN} {l : List TN} (h : rowsA T last (r :: l) = .some T') : rowA last r = true ∧ attrsA ⟨#[]⟩ r.attrs = true ∧ rowsA ((T.row r).putAll r.node r.attrs) r.node l = .some T' := by
  rw [rowsA] at h
  split at h
  · rename_i e
    rw [Bool.and_eq_true] at e
    exact ⟨e.1, e.2, h⟩
  · cases h
theorem rowsA_rise : ∀ {l : List TN} {T T' : PT} {last : Int}, rowsA T last l = .some T' → ∀ r ∈ l, last < r.node
  | [], _, _, _, _, r, hr => by simp at hr
  | r0 :: l, T, T', last, h, r, hr => by
    obtain ⟨h1, _, h3⟩ := rowsA_cons h
    have := rowA_last h1
    rcases List.mem_cons.1 hr with rfl | hr
    · exact this
    · have := rowsA_rise h3 r hr; omega
theorem rowGet_none : ∀ {l : List TN} {n : Int}, (∀ r ∈ l, r.node ≠ n) → rowGet l n = T0.get n
  | [], n, _ => rfl
  | r :: l, n, h => by
    rw [rowGet, if_neg (h r (by simp))]
    exact rowGet_none fun r hr => h r (by simp [hr])
theorem T0_get {n : Int} {x : PN} (h : T0.get n = .some x) : x = PN.bare := by
  have := getA_mem h
  simp only [T0, List.mem_cons, List.not_mem_nil, or_false, Prod.mk.injEq] at this
  rcases this with ⟨_, rfl⟩ | ⟨_, rfl⟩ <;> rfl
theorem rowsA_get : ∀ {l : List TN} {T T' : PT} {last : Int}, rowsA T last l = .some T' → (∀ n, last < n → T.get n = T0.get n) → ∀ n, T'.get n = if n ≤ last then T.get n else rowGet l n
  | [], T, T', last, h, h0, n => by
    cases h
    split
    · rfl
    · exact h0 n (by omega)
  | r :: l, T, T', last, h, h0, n => by
    obtain ⟨h1, _, h3⟩ := rowsA_cons h
    have hl := rowA_last h1
    have hg := fun j => get_row (T := T) (r := r) (fun x hx => by rw [h0 _ hl] at hx; rw [T0_get hx]; exact ⟨rfl, rfl⟩) j
    have ih := rowsA_get h3 (fun n hn => by rw [hg, if_neg (by omega)]; exact h0 n (by omega)) n
    rw [ih, hg]
    by_cases e1 : n ≤ last
    · rw [if_pos (show n ≤ r.node by omega), if_neg (show ¬ n = r.node by omega), if_pos e1]
    · rw [if_neg e1, rowGet]
      by_cases e2 : n = r.node
      · rw [if_pos (show n ≤ r.node by omega), if_pos e2, if_pos e2.symm]
      · rw [if_neg (show ¬ r.node = n from fun e => e2 e.symm)]
        by_cases e3 : n ≤ r.node
        · rw [if_pos e3, if_neg e2, h0 n (by omega)]
          exact (rowGet_none fun q hq => by have := rowsA_rise h3 q hq; omega).symm
        · rw [if_neg e3]
theorem mod_len (T : PT) (k : Int) (f : PN → PN) : (T.mod k f).nodes.map (·.1) = T.nodes.map (·.1) := by rw [PT.mod, keys_mod]
theorem putAll_keys {n : Int} : ∀ (l : List Attr) (T : PT), (T.putAll n l).nodes.map (·.1) = T.nodes.map (·.1) ∧ (T.putAll n l).ids = T.ids ∧ (T.putAll n l).last = T.last
  | [], T => ⟨rfl, rfl, rfl⟩
  | a :: l, T => by
    obtain ⟨h1, h2, h3⟩ := putAll_keys (n := n) l (T.attr n a.key a.value)
    refine ⟨?_, h2, h3⟩
    show ((T.attr n a.key a.value).putAll n l).nodes.map (·.1) = _
    rw [h1]
    exact mod_len T _ _
theorem row_keys {T : PT} {r : TN} (hn : (T.nodes.map (·.1)).Nodup) : ((T.row r).nodes.map (·.1)).Nodup ∧ (T.row r).nodes.length ≤ T.nodes.length + 1 ∧ (T.row r).ids = T.ids ∧ (T.row r).last = T.last := by
  have hk : (T.row r).nodes.map (·.1) = (T.sure r.node).nodes.map (·.1) := mod_len _ _ _
  have hl : (T.row r).nodes.length = (T.sure r.node).nodes.length := by simpa using congrArg List.length hk
  rw [hk, hl]
  have e1 : (T.row r).ids = (T.sure r.node).ids := rfl
  have e2 : (T.row r).last = (T.sure r.node).last := rfl
  rw [e1, e2]
  unfold PT.sure
  cases h : T.get r.node with
  | some x => exact ⟨hn, Nat.le_succ _, rfl, rfl⟩
  | none =>
    refine ⟨?_, by simp [PT.add], rfl, rfl⟩
    show ((T.nodes ++ [(r.node, PN.bare)]).map (·.1)).Nodup
    rw [List.map_append, List.nodup_append]
    refine ⟨hn, by simp, fun x hx y hy => ?_⟩
    simp only [List.map_cons, List.map_nil, List.mem_singleton] at hy
    subst hy
    exact fun e => (getA_none.1 h) (e ▸ hx)
theorem rowsA_keys : ∀ {l : List TN} {T T' : PT} {last : Int}, rowsA T last l = .some T' → (T.nodes.map (·.1)).Nodup → (T'.nodes.map (·.1)).Nodup ∧ T'.nodes.length ≤ T.nodes.length + l.length ∧ T'.ids = T.ids ∧ T'.last = T.last
  | [], T, T', last, h, hn => by cases h; exact ⟨hn, by simp, rfl, rfl⟩
  | r :: l, T, T', last, h, hn => by
    obtain ⟨_, _, h3⟩ := rowsA_cons h
    obtain ⟨a1, a2, a3, a4⟩ := row_keys (r := r) hn
    obtain ⟨b1, b2, b3⟩ := putAll_keys (n := r.node) r.attrs (T.row r)
    have bl : ((T.row r).putAll r.node r.attrs).nodes.length = (T.row r).nodes.length := by simpa using congrArg List.length b1
    obtain ⟨c1, c2, c3, c4⟩ := rowsA_keys h3 (by rw [b1]; exact a1)
    exact ⟨c1, by rw [List.length_cons]; omega, by rw [c3, b2, a3], by rw [c4, b3, a4]⟩
theorem rowsA_each : ∀ {l : List TN} {T T' : PT} {last : Int}, rowsA T last l = .some T' → ∀ r ∈ l, attrsA ⟨#[]⟩ r.attrs = true ∧ topB r.node = (decide (r.parent = 0) && decide (r.name = ⟨#[]⟩)) ∧ (topB r.node = true ∨ nameB r.name = true)
  | [], _, _, _, _, r, hr => by simp at hr
  | r0 :: l, T, T', last, h, r, hr => by
    obtain ⟨h1, h2, h3⟩ := rowsA_cons h
    rcases List.mem_cons.1 hr with rfl | hr
    · simp only [rowA, Bool.and_eq_true, beq_iff_eq, Bool.or_eq_true] at h1
      exact ⟨h2, h1.1.2, h1.2⟩
    · exact rowsA_each h3 r hr
theorem rowGet_cases : ∀ {l : List TN} {n : Int} {x : PN}, rowGet l n = .some x → (∃ r ∈ l, r.node = n ∧ x = rowN r) ∨ (T0.get n = .some x)
  | [], n, x, h => .inr h
  | r :: l, n, x, h => by
    rw [rowGet] at h
    split at h
    · rename_i e; cases h; exact .inl ⟨r, by simp, e, rfl⟩
    · rcases rowGet_cases h with ⟨q, hq, e⟩ | e
      · exact .inl ⟨q, by simp [hq], e⟩
      · exact .inr e

/-! ### Attributes that rise -/
theorem attrsA_cons {k : ByteArray} {a : Attr} {l : List Attr} (h : attrsA k (a :: l) = true) : leB a.key k = false ∧ a.value ≠ ⟨#[]⟩ ∧ pairB a.key a.value = true ∧ attrsA a.key l = true := by
  simp only [attrsA, Bool.and_eq_true, Bool.not_eq_true', decide_eq_false_iff_not] at h
  exact ⟨h.1.1.1, h.1.1.2, h.1.2, h.2⟩
theorem AttrOk.laid : ∀ (l : List Attr) (s : List (ByteArray × ByteArray)) (k : ByteArray), AttrOk s → attrsA k l = true → AttrOk (l.foldl (fun s a => setS s a.key a.value) s) ∧ (l.foldl (fun s a => setS s a.key a.value) s).length ≤ s.length + l.length ∧
    ((∀ j w, getS s j = some w → pairB j w = true) → ∀ j w, getS (l.foldl (fun s a => setS s a.key a.value) s) j = some w → pairB j w = true)
  | [], s, k, hs, _ => ⟨hs, by simp, fun h => h⟩
  | a :: l, s, k, hs, h => by
    obtain ⟨_, hv, hp, h4⟩ := attrsA_cons h
    have hk : a.key.size ≤ 255 := by
      simp only [pairB, Bool.and_eq_true, decide_eq_true_eq] at hp
      exact hp.1.2
    obtain ⟨i1, i2, i3⟩ := AttrOk.laid l (setS s a.key a.value) a.key (hs.set hk) h4
    have := len_set s a.key a.value
    refine ⟨i1, by simp only [List.foldl_cons, List.length_cons]; omega, fun hq => i3 fun j w hj => ?_⟩
    rw [getS_set hs] at hj
    split at hj
    · rename_i e
      split at hj
      · cases hj
      · cases hj; rw [e]; exact hp
    · exact hq j w hj
theorem laidA_ok {l : List Attr} (h : attrsA ⟨#[]⟩ l = true) : AttrOk (laidA l) ∧ (laidA l).length ≤ l.length ∧ ∀ j w, getS (laidA l) j = some w → pairB j w = true := by
  obtain ⟨h1, h2, h3⟩ := AttrOk.laid l [] ⟨#[]⟩ AttrOk.nil h
  exact ⟨h1, by have := h2; simp only [List.length_nil, Nat.zero_add] at this; exact this, h3 fun j w e => by cases e⟩

/-- What rows make, ahead of the children. -/
structure Rowed (l : List TN) (T : PT) : Prop where
  get : ∀ n, T.get n = rowGet l n
  nod : (T.nodes.map (·.1)).Nodup
  many : T.nodes.length ≤ l.length + 2
  ids : T.ids = []
  last : T.last = 0
  each : ∀ r ∈ l, 0 < r.node ∧ attrsA ⟨#[]⟩ r.attrs = true ∧ topB r.node = (decide (r.parent = 0) && decide (r.name = ⟨#[]⟩)) ∧ (topB r.node = true ∨ nameB r.name = true)
theorem rowsA_rowed {l : List TN} {T : PT} (h : rowsA T0 0 l = .some T) : Rowed l T := by
  have hg := rowsA_get h (fun n _ => rfl)
  obtain ⟨h1, h2, h3, h4⟩ := rowsA_keys h (by decide)
  refine ⟨fun n => ?_, h1, by have : T0.nodes.length = 2 := rfl; omega, h3, h4, fun r hr => ⟨rowsA_rise h r hr, rowsA_each h r hr⟩⟩
  rw [hg]
  split
  · rename_i e
    exact (rowGet_none fun r hr => by have := rowsA_rise h r hr; omega).symm
  · rfl
theorem Rowed.ok {l : List TN} {T : PT} {k : Nat} (h : Rowed l T) (hk : l.length ≤ k) (ha : ∀ r ∈ l, r.attrs.length ≤ k) (hw : ∀ r ∈ l, (Lit.int .i64 r.node).wf = true) : T.ok k := by
  refine ⟨h.nod, by have := h.many; omega, by rw [h.last]; omega, by rw [h.last]; omega, by rw [h.ids]; simp, fun n x hx => ?_, fun n x hx => ?_⟩
  · rw [h.get] at hx
    rcases rowGet_cases hx with ⟨r, hr, rfl, _⟩ | e
    · exact hw r hr
    · exact T0_ok.keys n x e
  · rw [h.get] at hx
    rcases rowGet_cases hx with ⟨r, hr, rfl, rfl⟩ | e
    · obtain ⟨h1, h2, _⟩ := laidA_ok (h.each r hr).2.1
      exact ⟨h1, Nat.le_trans h2 (ha r hr)⟩
    · rw [T0_get e]; exact ⟨AttrOk.nil, by simp [PN.bare]⟩
theorem Rowed.good {l : List TN} {T : PT} (h : Rowed l T) (hl : T.led) : VGood T.view := by
  have hc : ∀ n a, T.view n = .some a → (∃ r ∈ l, r.node = n ∧ a = (rowN r).view) ∨ T0.view n = .some a := fun n a ha => by
    obtain ⟨x, hx, rfl⟩ := get_of_view ha
    rw [h.get] at hx
    rcases rowGet_cases hx with ⟨r, hr, e, rfl⟩ | e
    · exact .inl ⟨r, hr, e, rfl⟩
    · exact .inr (PT.view_get e)
  have there : ∀ n, T0.get n ≠ .none → T.view n ≠ .none := fun n hn e => by
    rw [PT.view_none, h.get] at e
    have : ∀ (l : List TN), rowGet l n = .none → T0.get n = .none := by
      intro l
      induction l with
      | nil => exact id
      | cons r l ih =>
        intro e
        rw [rowGet] at e
        split at e
        · cases e
        · exact ih e
    exact hn (this l e)
  refine ⟨fun n a ha => ?_, there 1 (by decide), there 2 (by decide), fun n a ha ht => ?_, fun n a ha ht => ?_, fun n a k w ha hk => ?_, hl⟩
  · rcases hc n a ha with ⟨r, hr, rfl, _⟩ | e
    · exact (h.each r hr).1
    · exact T0_good.pos n a e
  · rcases hc n a ha with ⟨r, hr, rfl, rfl⟩ | e
    · have := (h.each r hr).2.2.1
      rw [ht] at this
      have := this.symm
      simp only [Bool.and_eq_true, decide_eq_true_eq] at this
      exact this
    · exact T0_good.top n a e ht
  · rcases hc n a ha with ⟨r, hr, rfl, rfl⟩ | e
    · exact (h.each r hr).2.2.2.resolve_left (by rw [ht]; simp)
    · exact T0_good.name n a e ht
  · rcases hc n a ha with ⟨r, hr, rfl, rfl⟩ | e
    · obtain ⟨h1, _, h3⟩ := laidA_ok (h.each r hr).2.1
      exact ⟨h3 k w hk, h1.val k w hk⟩
    · exact T0_good.pairs n a k w e hk

/-! ### The children -/
structure KidsUp (T1 T : PT) (s : List Int) : Prop where
  keys : T.nodes.map (·.1) = T1.nodes.map (·.1)
  ids : T.ids = T1.ids
  last : T.last = T1.last
  non : ∀ n, T1.get n = .none → T.get n = .none
  get : ∀ n x, T1.get n = .some x → ∃ ks : List Int, T.get n = .some { x with kids := ks } ∧ ks.Nodup ∧ ∀ c, c ∈ ks ↔ c ∈ s ∧ topB c = false ∧ ∃ y, T1.get c = .some y ∧ y.parent = n
theorem KidsUp.begin {T : PT} (h : ∀ n x, T.get n = .some x → x.kids = []) : KidsUp T T [] :=
  ⟨rfl, rfl, rfl, fun _ h => h, fun n x hx => ⟨[], by rw [hx]; have := h n x hx; cases x; simp only at this; subst this; rfl, List.nodup_nil, fun c => by simp⟩⟩
theorem KidsUp.top {T1 T : PT} {s : List Int} {c : Int} (h : KidsUp T1 T s) (hc : topB c = true) : KidsUp T1 T (s ++ [c]) := by
  refine ⟨h.keys, h.ids, h.last, h.non, fun n x hx => ?_⟩
  obtain ⟨ks, h1, h2, h3⟩ := h.get n x hx
  refine ⟨ks, h1, h2, fun d => ?_⟩
  rw [h3, List.mem_append, List.mem_singleton]
  constructor
  · rintro ⟨a, b⟩; exact ⟨.inl a, b⟩
  · rintro ⟨a | rfl, b, q⟩
    · exact ⟨a, b, q⟩
    · rw [hc] at b; cases b
theorem KidsUp.kid {T1 T : PT} {s : List Int} {c : Int} {y : PN} (h : KidsUp T1 T s) (hc : topB c = false) (hy : T1.get c = .some y) (hs : c ∉ s) : KidsUp T1 (T.kid y.parent c) (s ++ [c]) := by
  refine ⟨by rw [← h.keys]; exact mod_len _ _ _, h.ids, h.last, fun n hn => ?_, fun n x hx => ?_⟩
  · rw [get_kid, h.non n hn]; simp
  · obtain ⟨ks, h1, h2, h3⟩ := h.get n x hx
    rw [get_kid, h1]
    by_cases e : n = y.parent
    · refine ⟨putK ks c, by rw [if_pos e]; rfl, putK_nodup h2 c, fun d => ?_⟩
      rw [mem_putK, h3, List.mem_append, List.mem_singleton]
      constructor
      · rintro (rfl | ⟨a, b⟩)
        · exact ⟨.inr rfl, hc, y, hy, e.symm⟩
        · exact ⟨.inl a, b⟩
      · rintro ⟨a | a, b⟩
        · exact .inr ⟨a, b⟩
        · exact .inl a
    · refine ⟨ks, by rw [if_neg e], h2, fun d => ?_⟩
      rw [h3, List.mem_append, List.mem_singleton]
      constructor
      · rintro ⟨a, b⟩; exact ⟨.inl a, b⟩
      · rintro ⟨a | rfl, b, z, hz, q⟩
        · exact ⟨a, b, z, hz, q⟩
        · rw [hy] at hz; cases hz; exact absurd q.symm e
theorem KidsUp.view {T1 T : PT} {s : List Int} (h : KidsUp T1 T s) : T.view = T1.view := by
  funext n
  cases hg : T1.get n with
  | none => rw [PT.view_none.2 hg, PT.view_none.2 (h.non n hg)]
  | some x =>
    obtain ⟨ks, h1, _⟩ := h.get n x hg
    rw [PT.view_get hg, PT.view_get h1]; rfl
theorem KidsUp.back {T1 T : PT} {s : List Int} (h : KidsUp T1 T s) {n : Int} {x : PN} (hx : T.get n = .some x) : ∃ y, T1.get n = .some y ∧ y.parent = x.parent ∧ y.attrs = x.attrs := by
  cases hg : T1.get n with
  | none => rw [h.non n hg] at hx; cases hx
  | some y =>
    obtain ⟨ks, h1, _⟩ := h.get n y hg
    rw [h1] at hx; cases hx
    exact ⟨y, rfl, rfl, rfl⟩
theorem KidsUp.ok {T1 T : PT} {s : List Int} {k : Nat} (h : KidsUp T1 T s) (hk : T1.ok k) : T.ok k := by
  have hl : T.nodes.length = T1.nodes.length := by simpa using congrArg List.length h.keys
  refine ⟨by rw [h.keys]; exact hk.nod, by rw [hl]; exact hk.many, by rw [h.last]; exact hk.last0, by rw [h.last]; exact hk.lastk, by rw [h.ids]; exact hk.ids, fun n x hx => ?_, fun n x hx => ?_⟩
  · obtain ⟨y, hy, _⟩ := h.back hx
    exact hk.keys n y hy
  · obtain ⟨y, hy, _, e⟩ := h.back hx
    rw [← e]; exact hk.attrs n y hy
theorem KidsUp.kids {T1 T : PT} {s : List Int} (h : KidsUp T1 T s) (hs : ∀ c y, T1.get c = .some y → c ∈ s) : T.kidsOk := by
  refine ⟨fun n x hx => ?_, fun n x c hx => ?_⟩
  · obtain ⟨y, hy, _⟩ := h.back hx
    obtain ⟨ks, h1, h2, _⟩ := h.get n y hy
    rw [h1] at hx; cases hx
    exact h2
  · obtain ⟨y, hy, _⟩ := h.back hx
    obtain ⟨ks, h1, h2, h3⟩ := h.get n y hy
    rw [h1] at hx; cases hx
    show c ∈ ks ↔ _
    rw [h3]
    constructor
    · rintro ⟨_, b, z, hz, q⟩
      obtain ⟨kz, g1, _⟩ := h.get c z hz
      exact ⟨b, _, g1, q⟩
    · rintro ⟨b, z, hz, q⟩
      obtain ⟨z', hz', e, _⟩ := h.back hz
      exact ⟨hs c z' hz', b, z', hz', e.trans q⟩

/-! ### Whether all are reached -/
structure Met (T : PT) (vis wait : List Int) : Prop where
  nod : (vis ++ wait).Nodup
  one : (1 : Int) ∈ vis ++ wait
  two : (2 : Int) ∈ vis ++ wait
  led : ∀ n ∈ vis ++ wait, ∃ k, LeadsN T.view k n
  there : ∀ n ∈ vis ++ wait, ∃ x, T.get n = .some x
  kids : ∀ n ∈ vis, ∀ x, T.get n = .some x → ∀ c ∈ x.kids, c ∈ vis ++ wait
  from_ : ∀ n ∈ vis ++ wait, topB n = true ∨ ∃ p ∈ vis, ∃ x, T.get p = .some x ∧ n ∈ x.kids
theorem Met.few {T : PT} {vis wait : List Int} (h : Met T vis wait) : vis.length + wait.length ≤ T.nodes.length := by
  have := nodup_len (b := T.nodes.map (·.1)) h.nod fun m hm => Classical.byContradiction fun hc => by
    obtain ⟨x, hx⟩ := h.there m hm
    rw [show T.get m = .none from getA_none.2 hc] at hx; cases hx
  simpa using this
theorem Met.begin {T : PT} (h1 : T.get 1 ≠ .none) (h2 : T.get 2 ≠ .none) : Met T [] [1, 2] := by
  refine ⟨by decide, by simp, by simp, fun n hn => ⟨0, ?_⟩, fun n hn => ?_, by simp, fun n hn => .inl ?_⟩
  · simp at hn; exact topB_iff.2 hn
  · simp at hn
    rcases hn with rfl | rfl
    · exact Option.ne_none_iff_exists'.1 h1
    · exact Option.ne_none_iff_exists'.1 h2
  · simp at hn; exact topB_iff.2 hn
/-- A node's children put behind those that wait. -/
theorem Met.step {T : PT} {vis wait : List Int} {n : Int} {x : PN} {ks : List Int} (hk : T.kidsOk) (h : Met T vis (n :: wait)) (hx : T.get n = .some x) (hp : ks.Perm x.kids) : Met T (vis ++ [n]) (wait ++ ks) := by
  have e : vis ++ [n] ++ (wait ++ ks) = (vis ++ n :: wait) ++ ks := by simp
  have hkm : ∀ c, c ∈ ks ↔ c ∈ x.kids := fun c => hp.mem_iff
  obtain ⟨kn, hkn⟩ := h.led n (by simp)
  refine ⟨?_, ?_, ?_, ?_, ?_, ?_, ?_⟩
  · rw [e, List.nodup_append]
    refine ⟨h.nod, hp.nodup_iff.2 (hk.nod n x hx), fun a ha b hb hab => ?_⟩
    subst hab
    obtain ⟨h1, y, hy, hpar⟩ := (hk.mem n x a hx).1 ((hkm a).1 hb)
    rcases h.from_ a ha with ht | ⟨p, hp', z, hz, hc⟩
    · rw [ht] at h1; cases h1
    · obtain ⟨_, y', hy', hpar'⟩ := (hk.mem p z a hz).1 hc
      rw [hy] at hy'; cases hy'
      have : p = n := hpar'.symm.trans hpar
      subst this
      have := (List.nodup_append.1 h.nod).2.2 p hp' p (by simp)
      exact this rfl
  · rw [e]; exact List.mem_append_left _ h.one
  · rw [e]; exact List.mem_append_left _ h.two
  · intro a ha
    rw [e] at ha
    rcases List.mem_append.1 ha with ha | ha
    · exact h.led a ha
    · obtain ⟨h1, y, hy, hpar⟩ := (hk.mem n x a hx).1 ((hkm a).1 ha)
      exact ⟨kn + 1, h1, y.view, PT.view_get hy, by show LeadsN T.view kn y.parent; rw [hpar]; exact hkn⟩
  · intro a ha
    rw [e] at ha
    rcases List.mem_append.1 ha with ha | ha
    · exact h.there a ha
    · obtain ⟨h1, y, hy, hpar⟩ := (hk.mem n x a hx).1 ((hkm a).1 ha)
      exact ⟨y, hy⟩
  · intro a ha y hy c hc
    rw [e]
    rcases List.mem_append.1 ha with ha | ha
    · exact List.mem_append_left _ (h.kids a ha y hy c hc)
    · simp only [List.mem_singleton] at ha
      subst ha
      rw [hx] at hy; cases hy
      exact List.mem_append_right _ ((hkm c).2 hc)
  · intro a ha
    rw [e] at ha
    rcases List.mem_append.1 ha with ha | ha
    · rcases h.from_ a ha with ht | ⟨p, hp', r⟩
      · exact .inl ht
      · exact .inr ⟨p, by simp [hp'], r⟩
    · exact .inr ⟨n, by simp, x, hx, (hkm a).1 ha⟩
theorem Met.all {T : PT} {vis : List Int} (hk : T.kidsOk) (hn : (T.nodes.map (·.1)).Nodup) (h : Met T vis []) : vis.length = T.nodes.length ↔ T.led := by
  have hin : ∀ m, m ∈ T.nodes.map (·.1) ↔ ∃ x, T.get m = .some x := fun m => by
    rw [← Option.ne_none_iff_exists']
    have := getA_none (l := T.nodes) (j := m)
    unfold PT.get
    rw [Ne, this]
    simp
  have hsub : ∀ m ∈ vis, m ∈ T.nodes.map (·.1) := fun m hm => (hin m).2 (h.there m (by simpa using hm))
  have hnd : vis.Nodup := by simpa using h.nod
  constructor
  · intro hl n hv
    have : ∀ m ∈ T.nodes.map (·.1), m ∈ vis := by
      intro m hm
      refine Classical.byContradiction fun hc => ?_
      have := nodup_len (a := m :: vis) (b := T.nodes.map (·.1)) (List.nodup_cons.2 ⟨hc, hnd⟩) fun y hy => by
        rcases List.mem_cons.1 hy with rfl | hy
        · exact hm
        · exact hsub y hy
      simp at this
      omega
    have hget : T.get n ≠ .none := fun e => hv (PT.view_none.2 e)
    exact h.led n (by simpa using this n ((hin n).2 (Option.ne_none_iff_exists'.1 hget)))
  · intro hl
    have : ∀ k n, LeadsN T.view k n → T.get n ≠ .none → n ∈ vis := by
      intro k
      induction k with
      | zero =>
        intro n hn _
        rcases topB_iff.1 hn with rfl | rfl
        · simpa using h.one
        · simpa using h.two
      | succ k ih =>
        rintro n ⟨ht, a, ha, hp⟩ _
        obtain ⟨y, hy, rfl⟩ := get_of_view ha
        have hpv : T.get y.parent ≠ .none := by
          cases k with
          | zero =>
            rcases topB_iff.1 (show topB y.parent = true from hp) with e | e
            · rw [e]
              obtain ⟨z, hz⟩ := h.there 1 h.one
              rw [hz]; simp
            · rw [e]
              obtain ⟨z, hz⟩ := h.there 2 h.two
              rw [hz]; simp
          | succ k =>
            obtain ⟨_, b, hb, _⟩ := hp
            obtain ⟨z, hz, _⟩ := get_of_view hb
            intro e
            have hz' : T.get y.parent = .some z := hz
            rw [e] at hz'; cases hz'
        have hm := ih y.parent hp hpv
        obtain ⟨z, hz⟩ := Option.ne_none_iff_exists'.1 hpv
        have := h.kids y.parent hm z hz n ((hk.mem _ z n hz).2 ⟨ht, y, hy, rfl⟩)
        simpa using this
    have hall : ∀ m ∈ T.nodes.map (·.1), m ∈ vis := fun m hm => by
      obtain ⟨x, hx⟩ := (hin m).1 hm
      obtain ⟨k, hk⟩ := hl m (by rw [PT.view_get hx]; simp)
      exact this k m hk (by rw [hx]; simp)
    have h1 := nodup_len hnd hsub
    have h2 := nodup_len hn hall
    simp at h1 h2
    omega
end Go.Proofs.YtmjiojflncffeaaGreat.Vc

/- The code of some functions of the program, its types resolved: printed by a program of this claim. -/
set_option linter.unusedVariables false
set_option maxRecDepth 100000
namespace Go.Proofs.YtmjiojflncffeaaGreat.Vc
open Go Go.Proofs

abbrev f_tree_From : Nat := 71
def c_tree_From_L0 : Cd :=
 (.seq (.rg [⟨none, [(some 83, .bin .lss (.t 82) (.t 81))]⟩] [4, 5, 8, 9, 16, 17, 18, 80, 81, 82, 83])
 (.seq (.ite (.t 83)
 .skip
 (.exit 2))
 (.seq (.block 3 (.seq (.rg [⟨none, [(some 84, .idxS (.t 80) (.t 82) 2), (some 85, .ld (.t 84) 2 true), (some 11, .new 75 (.c (.s (.string ⟨#[]⟩)) (.c (.s (.string ⟨#[]⟩)) .u))), (none, .st (.t 11) (.t 85) 2)]⟩] [4, 5, 8, 9, 11, 16, 17, 18, 80, 81, 82])
 (.seq (.seq (.rg [⟨none, [(some 86, .fldA (.t 11) 0 0), (some 87, .ld (.t 86) 1 false), (some 88, .mv (.t 9)), (some 89, .bin .leq (.t 87) (.t 88)), (some 90, .mv (.t 89))]⟩, ⟨some (90, false), [(some 91, .fldA (.t 11) 1 1), (some 92, .ld (.t 91) 1 false), (some 93, .bin .eql (.t 92) (.c (.string ⟨#[]⟩)))]⟩, ⟨none, [(some 94, .pick (.t 90) (.c (.bool true)) (.t 93)), (some 95, .mv (.t 94))]⟩, ⟨some (95, false), [(some 96, .fldA (.t 11) 0 0), (some 97, .ld (.t 96) 1 false), (some 98, .fldA (.t 11) 1 1), (some 99, .ld (.t 98) 1 false), (some 100, .call 91 [(.t 97), (.t 99)]), (some 101, .un .not (.t 100))]⟩, ⟨none, [(some 102, .pick (.t 95) (.c (.bool true)) (.t 101))]⟩] [4, 5, 8, 11, 16, 17, 18, 80, 81, 82, 102])
 (.ite (.t 102)
 (.seq (.rg [⟨none, [(some 2, .mv (.c (.pointer none))), (some 3, .mv (.c (.int .i64 121)))]⟩] [2, 3])
 .ret)
 .skip))
 (.seq (.rg [⟨none, [(some 103, .fldA (.t 11) 0 0), (some 104, .ld (.t 103) 1 false), (some 9, .mv (.t 104))]⟩] [4, 5, 8, 9, 11, 16, 17, 18, 80, 81, 82])
 (.rgq [⟨none, [(some 105, .mv (.t 8)), (some 106, .nilc (.t 105)), (some 107, .fldA (.t 106) 1 2), (some 108, .ld (.t 107) 1 false), (some 109, .fldA (.t 11) 0 0), (some 110, .ld (.t 109) 1 false), (some 111, .fldA (.t 11) 1 1), (some 112, .ld (.t 111) 1 false)]⟩] [⟨none, [(none, .mup none (.t 108) (.t 110) (.t 112))]⟩] [4, 5, 8, 9, 16, 17, 18, 80, 81, 82])))))
 (.rg [⟨none, [(some 113, .bin .add (.t 82) (.c (.int .i64 1))), (some 82, .mv (.t 113))]⟩] [4, 5, 8, 9, 16, 17, 18, 80, 81, 82]))))
def c_tree_From_R13 : Cd :=
 (.seq (.gh (.rg [⟨none, [(some 71, .mv (.t 8)), (some 72, .fldA (.t 7) 1 1), (some 73, .ld (.t 72) 1 false), (some 74, .fldA (.t 7) 2 2), (some 75, .ld (.t 74) 1 false), (some 76, .bld (.c (.s (.int .i64 0)) (.c (.s (.string ⟨#[]⟩)) .u)) [(0, (.t 73)), (1, (.t 75))]), (some 77, .nilc (.t 71)), (some 78, .fldA (.t 77) 0 0), (none, .st (.t 78) (.t 76) 2)]⟩] [4, 5, 7, 8, 16, 17, 18]))
 (.seq (.rg [⟨none, [(some 9, .mv (.c (.string ⟨#[]⟩)))]⟩] [4, 5, 7, 8, 9, 16, 17, 18])
 (.seq (.rg [⟨none, [(some 79, .fldA (.t 7) 3 3), (some 80, .ld (.t 79) 1 false), (none, .gh), (some 81, .len (.t 80)), (some 82, .mv (.c (.int .i64 0)))]⟩] [4, 5, 8, 9, 16, 17, 18, 80, 81, 82])
 (.block 2 (.loop c_tree_From_L0)))))
def c_tree_From_R8 : Cd :=
 (.seq (.gh (.rg [⟨none, [(some 52, .fldA (.t 7) 0 0), (some 53, .ld (.t 52) 1 false), (some 5, .mv (.t 53))]⟩] [4, 5, 7, 16, 17, 18]))
 (.seq (.rgq [⟨none, [(some 54, .mv (.t 4)), (some 55, .nilc (.t 54)), (some 56, .fldA (.t 55) 0 0), (some 57, .ld (.t 56) 1 false), (some 58, .fldA (.t 7) 0 0), (some 59, .ld (.t 58) 1 false)]⟩] [⟨none, [(some 60, .mlk (some .i64) (.t 57) (.t 59) (.pointer none) false), (some 8, .mv (.t 60))]⟩] [4, 5, 7, 8, 16, 17, 18])
 (.seq (.seq (.rg [⟨none, [(some 61, .mv (.t 8)), (some 62, .eqA false 115 (.t 61) (.c (.pointer none)))]⟩] [4, 5, 7, 8, 16, 17, 18, 62])
 (.ite (.t 62)
 (.seq (.rg [⟨none, [(some 63, .call 66 []), (some 8, .mv (.t 63))]⟩] [4, 5, 7, 8, 16, 17, 18])
 (.rgq [⟨none, [(some 64, .mv (.t 4)), (some 65, .nilc (.t 64)), (some 66, .fldA (.t 65) 0 0), (some 67, .ld (.t 66) 1 false), (some 68, .fldA (.t 7) 0 0), (some 69, .ld (.t 68) 1 false), (some 70, .mv (.t 8))]⟩] [⟨none, [(none, .mup (some .i64) (.t 67) (.t 69) (.t 70))]⟩] [4, 5, 7, 8, 16, 17, 18]))
 .skip))
 c_tree_From_R13)))
def c_tree_From_L1 : Cd :=
 (.seq (.rg [⟨none, [(some 19, .bin .lss (.t 18) (.t 17))]⟩] [4, 5, 16, 17, 18, 19])
 (.seq (.ite (.t 19)
 .skip
 (.exit 0))
 (.seq (.block 1 (.seq (.rg [⟨none, [(some 20, .idxS (.t 16) (.t 18) 4), (some 21, .ld (.t 20) 4 true), (some 7, .new 49 (.c (.s (.int .i64 0)) (.c (.s (.int .i64 0)) (.c (.s (.string ⟨#[]⟩)) (.c (.s (.slice none 0 0)) .u))))), (none, .st (.t 7) (.t 21) 4)]⟩] [4, 5, 7, 16, 17, 18])
 (.seq (.seq (.rgq [⟨none, [(some 22, .fldA (.t 7) 0 0), (some 23, .ld (.t 22) 1 false), (some 24, .mv (.t 5)), (some 25, .bin .leq (.t 23) (.t 24)), (some 26, .mv (.t 25))]⟩, ⟨some (26, false), [(some 27, .fldA (.t 7) 0 0), (some 28, .ld (.t 27) 1 false), (some 29, .call 60 [(.t 28)]), (some 30, .fldA (.t 7) 1 1), (some 31, .ld (.t 30) 1 false), (some 32, .bin .eql (.t 31) (.c (.int .i64 0)))]⟩] [⟨some (26, false), [(some 33, .mv (.t 32))]⟩, ⟨some (33, true), [(some 34, .fldA (.t 7) 2 2), (some 35, .ld (.t 34) 1 false), (some 36, .bin .eql (.t 35) (.c (.string ⟨#[]⟩)))]⟩, ⟨some (26, false), [(some 37, .pick (.t 33) (.t 36) (.c (.bool false))), (some 38, .eqA true 4 (.t 29) (.t 37))]⟩, ⟨none, [(some 39, .pick (.t 26) (.c (.bool true)) (.t 38)), (some 40, .mv (.t 39))]⟩, ⟨some (40, false), [(some 41, .fldA (.t 7) 0 0), (some 42, .ld (.t 41) 1 false), (some 43, .call 60 [(.t 42)]), (some 44, .un .not (.t 43)), (some 45, .mv (.t 44))]⟩, ⟨some (45, true), [(some 46, .fldA (.t 7) 2 2), (some 47, .ld (.t 46) 1 false), (some 48, .call 89 [(.t 47)]), (some 49, .un .not (.t 48))]⟩, ⟨some (40, false), [(some 50, .pick (.t 45) (.t 49) (.c (.bool false)))]⟩, ⟨none, [(some 51, .pick (.t 40) (.c (.bool true)) (.t 50))]⟩] [4, 7, 16, 17, 18, 51])
 (.ite (.t 51)
 (.seq (.rg [⟨none, [(some 2, .mv (.c (.pointer none))), (some 3, .mv (.c (.int .i64 121)))]⟩] [2, 3])
 .ret)
 .skip))
 c_tree_From_R8)))
 (.rg [⟨none, [(some 114, .bin .add (.t 18) (.c (.int .i64 1))), (some 18, .mv (.t 114))]⟩] [4, 5, 16, 17, 18]))))
def c_tree_From_L2 : Cd :=
 (.seq (.rg [⟨none, [(some 120, .nxt (.t 119)), (some 121, .ext (.t 120) 0)]⟩] [4, 119, 121])
 (.seq (.ite (.t 121)
 .skip
 (.exit 4))
 (.block 5 (.seq (.rg [⟨none, [(some 122, .ent (.t 119)), (some 123, .ext (.t 122) 0), (some 124, .ext (.t 122) 1), (some 12, .mv (.t 123)), (some 13, .mv (.t 124))]⟩] [4, 12, 13, 119])
 (.seq (.seq (.rg [⟨none, [(some 125, .mv (.t 12)), (some 126, .call 60 [(.t 125)])]⟩] [4, 12, 13, 119, 126])
 (.ite (.t 126)
 (.exit 5)
 .skip))
 (.seq (.rgq [⟨none, [(some 127, .mv (.t 4)), (some 128, .nilc (.t 127)), (some 129, .fldA (.t 128) 0 0), (some 130, .ld (.t 129) 1 false), (some 131, .mv (.t 13)), (some 132, .nilc (.t 131)), (some 133, .fldA (.t 132) 0 0), (some 134, .fldA (.t 133) 0 0), (some 135, .ld (.t 134) 1 false)]⟩] [⟨none, [(some 136, .mlk (some .i64) (.t 130) (.t 135) (.pointer none) false), (some 14, .mv (.t 136))]⟩] [4, 12, 14, 119])
 (.seq (.seq (.rg [⟨none, [(some 137, .mv (.t 14)), (some 138, .eqA false 115 (.t 137) (.c (.pointer none)))]⟩] [4, 12, 14, 119, 138])
 (.ite (.t 138)
 (.seq (.rg [⟨none, [(some 2, .mv (.c (.pointer none))), (some 3, .mv (.c (.int .i64 121)))]⟩] [2, 3])
 .ret)
 .skip))
 (.rg [⟨none, [(some 139, .mv (.t 14)), (some 140, .nilc (.t 139)), (some 141, .fldA (.t 140) 2 3), (some 142, .ld (.t 141) 1 false), (some 143, .mv (.t 12)), (none, .mup (some .i64) (.t 142) (.t 143) (.c (.int .i64 1)))]⟩] [4, 119]))))))))
def c_tree_From : Cd :=
 (.seq (.rg [⟨none, [(some 2, .mv (.c (.pointer none))), (some 3, .mv (.c (.int .i64 0)))]⟩] [0])
 (.seq (.rg [⟨none, [(some 15, .call 34 []), (some 4, .mv (.t 15))]⟩] [0, 4])
 (.seq (.rg [⟨none, [(some 5, .mv (.c (.int .i64 0)))]⟩] [0, 4, 5])
 (.seq (.seq (.rg [⟨none, [(some 16, .mv (.t 0)), (some 17, .len (.t 16)), (some 18, .mv (.c (.int .i64 0)))]⟩] [4, 5, 16, 17, 18])
 (.block 0 (.loop c_tree_From_L1)))
 (.seq (.seq (.rg [⟨none, [(some 115, .mv (.t 4)), (some 116, .nilc (.t 115)), (some 117, .fldA (.t 116) 0 0), (some 118, .ld (.t 117) 1 false), (some 119, .rng (some .i64) (.t 118))]⟩] [4, 119])
 (.block 4 (.loop c_tree_From_L2)))
 (.seq (.seq (.rg [⟨none, [(some 144, .mv (.t 4)), (some 145, .call 99 [(.t 144)]), (some 146, .un .not (.t 145))]⟩] [4, 146])
 (.ite (.t 146)
 (.seq (.rg [⟨none, [(some 2, .mv (.c (.pointer none))), (some 3, .mv (.c (.int .i64 121)))]⟩] [2, 3])
 .ret)
 .skip))
 (.seq (.rg [⟨none, [(some 147, .mv (.t 4)), (some 2, .mv (.t 147)), (some 3, .mv (.c (.int .i64 0)))]⟩] [2, 3])
 .ret)))))))
theorem k_tree_From : Ok Tryz.prog 71 c_tree_From 148 [(6, 11), (9, 6), (12, 7), (21, 8), (28, 9)] [.tmp 2, .tmp 3] := Ok.mk' Tryz.func71 (by kernel_rfl) (by kernel_rfl) (by kernel_rfl)

abbrev f_tree_Tree_whole : Nat := 99
def c_tree_Tree_whole_L0 : Cd :=
 (.seq (.rg [⟨none, [(some 28, .nxt (.t 27)), (some 29, .ext (.t 28) 0)]⟩] [0, 3, 4, 27, 29])
 (.seq (.ite (.t 29)
 .skip
 (.exit 2))
 (.block 3 (.seq (.rg [⟨none, [(some 30, .ent (.t 27)), (some 31, .ext (.t 30) 0), (some 6, .mv (.t 31))]⟩] [0, 3, 4, 6, 27])
 (.rg [⟨none, [(some 32, .mv (.t 4)), (some 33, .mv (.t 6)), (some 34, .bldS 2 1 (.s (.int .i64 0)) [(.t 33)]), (some 35, .app 2 1 8 (.s (.int .i64 0)) (.t 32) (.t 34)), (some 4, .mv (.t 35))]⟩] [0, 3, 4, 27])))))
def c_tree_Tree_whole_L1 : Cd :=
 (.seq (.seq (.rg [⟨none, [(some 8, .mv (.t 4)), (some 9, .len (.t 8)), (some 10, .bin .gtr (.t 9) (.c (.int .i64 0)))]⟩] [0, 3, 4, 10])
 (.ite (.t 10)
 .skip
 (.exit 0)))
 (.block 1 (.seq (.rgq [⟨none, [(some 11, .mv (.t 0)), (some 12, .nilc (.t 11)), (some 13, .fldA (.t 12) 0 0), (some 14, .ld (.t 13) 1 false), (some 15, .mv (.t 4)), (some 16, .idxS (.t 15) (.c (.int .i64 0)) 1), (some 17, .ld (.t 16) 1 false)]⟩] [⟨none, [(some 18, .mlk (some .i64) (.t 14) (.t 17) (.pointer none) false), (some 5, .mv (.t 18))]⟩] [0, 3, 4, 5])
 (.seq (.rg [⟨none, [(some 19, .mv (.t 4)), (some 20, .sl 1 (.t 19) (some (.c (.int .i64 1))) none), (some 4, .mv (.t 20))]⟩] [0, 3, 4, 5])
 (.seq (.rg [⟨none, [(some 21, .mv (.t 3)), (some 22, .bin .add (.t 21) (.c (.int .i64 1))), (some 3, .mv (.t 22))]⟩] [0, 3, 4, 5])
 (.seq (.rg [⟨none, [(some 23, .mv (.t 5)), (some 24, .nilc (.t 23)), (some 25, .fldA (.t 24) 2 3), (some 26, .ld (.t 25) 1 false), (some 27, .rng (some .i64) (.t 26))]⟩] [0, 3, 4, 27])
 (.block 2 (.loop c_tree_Tree_whole_L0))))))))
def c_tree_Tree_whole : Cd :=
 (.seq (.rg [⟨none, [(some 2, .mv (.c (.bool false)))]⟩] [0])
 (.seq (.rg [⟨none, [(some 3, .mv (.c (.int .i64 0)))]⟩] [0, 3])
 (.seq (.rg [⟨none, [(some 7, .bldS 2 1 (.s (.int .i64 0)) [(.c (.int .i64 1)), (.c (.int .i64 2))]), (none, .gh), (some 4, .mv (.t 7))]⟩] [0, 3, 4])
 (.seq (.block 0 (.loop c_tree_Tree_whole_L1))
 (.seq (.rg [⟨none, [(some 36, .mv (.t 3)), (some 37, .mv (.t 0)), (some 38, .nilc (.t 37)), (some 39, .fldA (.t 38) 0 0), (some 40, .ld (.t 39) 1 false), (some 41, .mln (some .i64) (.t 40)), (some 42, .bin .eql (.t 36) (.t 41)), (some 2, .mv (.t 42))]⟩] [2])
 .ret)))))
theorem k_tree_Tree_whole : Ok Tryz.prog 99 c_tree_Tree_whole 43 [(4, 7)] [.tmp 2] := Ok.mk' Tryz.func99 (by kernel_rfl) (by kernel_rfl) (by kernel_rfl)

end Go.Proofs.YtmjiojflncffeaaGreat.Vc

/- Whether each node is below the root or the trash: the walk. -/
set_option linter.unusedVariables false
set_option linter.unusedSimpArgs false
set_option maxRecDepth 100000
namespace Go.Proofs.YtmjiojflncffeaaGreat.Vc
open Go Go.Proofs

theorem SlO.drop1 {u : PH} {b o n c : Nat} {e : TypeId} {z : Nat} {x : GV} {xs : List GV} (h : SlO u (.slice (.some ⟨b, o, none⟩) n c) e z (x :: xs)) : SlO u (.slice (.some ⟨b, if c = 1 then o else o + 1 * z, none⟩) (n - 1) (c - 1)) e z xs := by
  obtain ⟨hels, ⟨h1, h2⟩ | ⟨a, c', h1, h2, h3⟩⟩ := h
  · cases h2
  · simp only [Value.slice.injEq, Option.some.injEq] at h1
    obtain ⟨rfl, rfl, rfl⟩ := h1
    refine ⟨fun y hy => hels y (List.mem_cons_of_mem _ hy), .inr ⟨⟨b, if c = 1 then o else o + 1 * z, none⟩, c - 1, by simp, by simp at h2; omega, fun hc => ?_⟩⟩
    obtain ⟨cs, g1, g2, g3, g4⟩ := h3 (by omega)
    have hz := (hels x (by simp)).2
    have hfl : x.flat.length = z := by rw [← hz]; exact GV.flat_len x (hels x (by simp)).1
    simp only at g1 g2 g3 g4
    rw [if_neg (by omega)]
    refine ⟨cs, rfl, ?_, g3, fun j v hj => ?_⟩
    · obtain ⟨k, rfl⟩ : ∃ k, c = k + 1 := ⟨c - 1, by omega⟩
      simp only [Nat.add_sub_cancel]
      rw [Nat.add_mul] at g2
      omega
    · have := g4 (z + j) v (by
        rw [flats, List.flatMap_cons, List.getElem?_append_right (by omega), hfl]
        rw [Nat.add_sub_cancel_left]; exact hj)
      rw [Nat.one_mul, Nat.add_assoc]; exact this
theorem uni_one_upd (r : Nat) (a b : Obj) (m : PH) : (uni (one r a) m).upd r b = uni (one r b) m := by
  funext j
  by_cases h : j = r
  · subst h; simp [PH.upd, uni, one]
  · simp [PH.upd, uni, one, h]
theorem dis_one_of {r : Nat} {a b : Obj} {m : PH} (h : dis (one r a) m) : dis (one r b) m := fun j => by
  by_cases e : j = r
  · subst e
    rcases h j with q | q
    · simp [one] at q
    · exact .inr q
  · exact .inl (by simp [one, e])
theorem uni_one_self (r : Nat) (a : Obj) (m : PH) : uni (one r a) m r = some a := by simp [uni, one]
theorem kids_few {T : PT} (hk : T.kidsOk) {n : Int} {x : PN} (hx : T.get n = some x) : x.kids.length ≤ T.nodes.length := by
  have := nodup_len (b := T.nodes.map (·.1)) (hk.nod n x hx) fun c hc => Classical.byContradiction fun hn => by
    obtain ⟨_, y, hy, _⟩ := (hk.mem n x c hx).1 hc
    rw [show T.get c = none from getA_none.2 hn] at hy; cases hy
  simpa using this
theorem iter_nodup {it mo : Obj} {b : Nat} {ks ls : List Int} (h : IterM it mo b (rawK ks)) (hm : MapI (some .i64) mo (rawK ls)) (hn : ls.Nodup) : ks.length ≤ ls.length := by
  have := h.le hm
  simpa [rawK] using this

theorem whole_spec (w : World) (u : PH) (hu : u.le w) (L : Lay) (T : PT) (hT : TM u L T) (hk : T.kidsOk) (h1 : T.get 1 ≠ none) (h2 : T.get 2 ≠ none) (hlen : T.nodes.length < 1099511627776) :
    Spec Tryz.prog f_tree_Tree_whole [ptr (L .t)] PH.no w fun rs _ => ∃ b, rs = [.s (.bool b)] ∧ (b = true ↔ T.led) := by
  refine spec_val k_tree_Tree_whole (Qf := fun rs => ∃ b, rs = [.s (.bool b)] ∧ (b = true ↔ T.led)) [.g (.s (ptr (L .t)))] (by simp) (by simp [AV.ok, GV.ok, Value.oneCell', ptr]) ?_
  have hk' : ∀ {l : List PH}, KN (⟨Tryz.prog, 43, w, PH.no⟩ : Ctx).u0 l u := kn_u hu
  simp (maxSteps := 2000000) only [c_tree_Tree_whole, vc_seq, vc_rg, thenQ_n, kKeep_eq, segs_nil, segs_n, ops_nil, ops_cons, vcOp, ev, evL, gvL, look, updL, put_mk, keep_mk, keepL, GV.sz, Value.oneCell', cond_true, Nat.reduceAdd, ↓reduceIte, reduceCtorEq, Nat.zero_add, Bool.and_true, Bool.true_and, true_and, and_true, initF, initP, Option.map_some, szAll, List.length_cons, List.length_nil, Int.reduceAdd, ptr]
  refine gh_pub 7 7 2 rfl rfl rfl fun v0 m0 hv0 hs0 hd0 => ?_
  simp (maxSteps := 2000000) only [vc_seq, vc_block, thenQ_n, kKeep_eq, segs_nil, ops_nil, ops_cons, vcOp, ev, look, put_mk, keep_mk, keepL, cond_true, cond_false, Nat.reduceEqDiff, ↓reduceIte, reduceCtorEq, BEq.rfl, kill, SV.mentions]
  refine vc_loop (ι := List Int × List Int × Value × PH × PH) (fun q => ⟨[(0, .g (.s (.pointer (some ⟨L .t, 0, none⟩)))), (3, .g (.s (.int .i64 (q.1.length)))), (4, .g (.s q.2.2.1))], [], [], uni q.2.2.2.1 q.2.2.2.2⟩)
    (fun q => Met T q.1 q.2.1 ∧ SlO q.2.2.2.1 q.2.2.1 2 1 (q.2.1.map gi) ∧ dis q.2.2.2.1 q.2.2.2.2) (fun q => T.nodes.length - q.1.length) ([], [1, 2], v0, m0, PH.no) ⟨Met.begin h1 h2, hs0, dis_no_r _⟩ (ge_of ?_ ?_ rfl rfl rfl) ?_
  · simp [frIn, look]
  · simp [pvIn, look]
  rintro ⟨vis, wait, v, mw, mg⟩ ⟨hM, hS, hD⟩
  simp only at hM hS hD
  generalize hQ : loopQ _ _ _ _ _ = Q
  have hfew := hM.few
  cases wait with
  | nil =>
    obtain ⟨a, c, rfl⟩ : ∃ a c, v = .slice a 0 c := by
      rcases hS.2 with ⟨rfl, _⟩ | ⟨ad, c, rfl, _⟩
      · exact ⟨none, 0, rfl⟩
      · exact ⟨some ad, c, rfl⟩
    simp (maxSteps := 2000000) only [c_tree_Tree_whole_L1, vc_skip, vc_exit, vc_seq, vc_block, vc_rg, vc_rgq, vc_ite, thenQ_n, thenQ_e, kKeep_eq, segs_nil, segs_n, ops_nil, ops_cons, qsegs_n, qops_cons, vcqOp, vcOp, isRd, ev, look, put_mk, keep_mk, keepL, binV, binC, Value.oneCell', cond_true, Nat.reduceEqDiff, ↓reduceIte, reduceCtorEq, Nat.add_zero, Bool.true_and, true_and, decide_eq_true_eq, decide_eq_false_iff_not, br_t]
    refine ⟨fun h => absurd h (by simp), fun _ => ?_⟩
    subst hQ
    simp (maxSteps := 2000000) only [vc_seq, vc_rg, thenQ_n, blockQ_e, loopQ_e, segs_n, ops_cons, vcOp, ev, look, put_mk, ↓reduceIte, reduceCtorEq, Nat.add_zero]
    refine ld_of _ (hT.s_map hk') rfl ?_
    simp (maxSteps := 2000000) only [ops_cons, vcOp, ev, look, put_mk, ↓reduceIte]
    refine hT.len hk' ?_
    simp (maxSteps := 2000000) only [vc_ret, thenQ_n, kKeep_eq, segs_nil, ops_nil, ops_cons, vcOp, ev, look, put_mk, keep_mk, keepL, binV, binC, Nat.reduceEqDiff, ↓reduceIte, Bool.true_and, true_and, finW_r, resL, resOne]
    refine ⟨_, rfl, ?_⟩
    rw [← hM.all hk hT.nod]
    simp only [beq_iff_eq]
    omega
  | cons n ws =>
    obtain ⟨x, hx⟩ := hM.there n (by simp)
    obtain ⟨b, o, c, hvv, hc, hseen⟩ : ∃ b o c, v = .slice (some ⟨b, o, none⟩) (ws.length + 1) c ∧ ws.length + 1 ≤ c ∧ ∀ {C : Ctx} {ph : List PH} {m : PH}, KN C.u0 (m :: ph) mw → ∀ i y, ((n :: ws).map gi)[i]? = some y → Seen C ph m b (o + i * 1) y := by
      rcases hS.toR.shape with ⟨h, _⟩ | ⟨_, b, o, c, h3, h4, h5⟩
      · cases h
      · exact ⟨b, o, c, by simpa using h3, by simpa using h4, h5⟩
    subst hvv
    have hknw : ∀ {C : Ctx} {ph : List PH}, KN C.u0 (uni mw mg :: ph) mw := fun {C ph} j ob hj => .inr ⟨uni mw mg, by simp, sub_uni_l _ _ j ob hj⟩
    have hkf := kids_few hk hx
    simp only [List.length_cons] at hfew
    simp (maxSteps := 2000000) only [c_tree_Tree_whole_L1, vc_skip, vc_exit, vc_seq, vc_block, vc_rg, vc_rgq, vc_ite, thenQ_n, thenQ_e, kKeep_eq, segs_nil, segs_n, ops_nil, ops_cons, qsegs_n, qops_cons, vcqOp, vcOp, isRd, ev, look, put_mk, keep_mk, keepL, binV, binC, Value.oneCell', cond_true, Nat.reduceEqDiff, ↓reduceIte, reduceCtorEq, Nat.add_zero, Bool.true_and, true_and, decide_eq_true_eq, decide_eq_false_iff_not, br_t]
    refine ⟨fun _ => ?_, fun h => absurd h (by omega)⟩
    refine ld_of _ (hT.s_map hk') rfl ?_
    simp (maxSteps := 2000000) only [qops_cons, vcqOp, vcOp, isRd, ev, look, put_mk, Value.oneCell', cond_true, Nat.reduceEqDiff, Nat.reduceMul, ↓reduceIte, reduceCtorEq, Nat.add_zero, Bool.true_and, true_and, Int.reduceToNat, Int.reduceLE]
    refine ⟨by omega, ld_of _ (by have := hseen (C := ⟨Tryz.prog, 43, w, PH.no⟩) (ph := []) (m := uni mw mg) hknw 0 (gi n) rfl; simpa using this) rfl ?_⟩
    simp (maxSteps := 2000000) only [segs_n, ops_cons, qsegs_nil, qops_nil, vcOp, ev, look, put_mk, Nat.reduceEqDiff, ↓reduceIte]
    refine hT.lk hk' n ?_
    rw [hx]
    simp (maxSteps := 2000000) only [vc_seq, vc_rg, thenQ_n, kKeep_eq, segs_nil, segs_n, ops_nil, ops_cons, vcOp, ev, look, put_mk, keep_mk, keepL, bndN, binV, binC, Value.oneCell', cond_true, Nat.reduceEqDiff, Nat.reduceMul, ↓reduceIte, reduceCtorEq, Nat.zero_add, Bool.true_and, true_and, Int.toNat_natCast, Int.reduceToNat, Int.reduceLE, nptr_some]
    refine ⟨by omega, ?_⟩
    rw [wrap_n (by omega)]
    refine ld_of _ (hT.s_node hk' hx).2.2.2.1 rfl ?_
    simp (maxSteps := 2000000) only [ops_cons, vcOp, ev, look, put_mk, ↓reduceIte]
    obtain ⟨ok, idsV, e1, e2⟩ := hT.at (.kb n) ⟨x, hx⟩
    have hmap : MapI (some .i64) ok (rawK x.kids) := e2 x hx
    have hsee : ∀ {m : PH}, SeenO ⟨Tryz.prog, 43, w, PH.no⟩ [] m (L (.kb n)) ok := fun {m} => kn_seen hk' e1
    refine ⟨ok, _, hsee, hmap, fun r it hit hdr => ?_⟩
    have hS2 : SlO mw (.slice (some ⟨b, if c = 1 then o else o + 1, none⟩) (ws.length + 1 - 1) (c - 1)) 2 1 (ws.map gi) := by
      have := hS.drop1
      simpa using this
    generalize Value.slice (some ⟨b, if c = 1 then o else o + 1, none⟩) (ws.length + 1 - 1) (c - 1) = v2 at hS2 ⊢
    simp (maxSteps := 2000000) only [vc_block, thenQ_n, kKeep_eq, segs_nil, ops_nil, look, put_mk, keep_mk, keepL, Nat.reduceEqDiff, ↓reduceIte, reduceCtorEq]
    refine vc_loop (ι := List Int × Value × PH × Obj × PH) (fun q => ⟨[(0, .g (.s (.pointer (some ⟨L .t, 0, none⟩)))), (3, .g (.s (.int .i64 ((vis.length + 1 : Nat))))), (4, .g (.s q.2.1)), (27, .g (.s (.pointer (some ⟨r, 0, none⟩))))], [], [], uni (one r q.2.2.2.1) (uni q.2.2.1 q.2.2.2.2)⟩)
      (fun q => IterM q.2.2.2.1 ok (L (.kb n)) (rawK q.1) ∧ SlO q.2.2.1 q.2.1 2 1 ((ws ++ q.1).map gi) ∧ dis q.2.2.1 q.2.2.2.2 ∧ dis (one r q.2.2.2.1) (uni q.2.2.1 q.2.2.2.2)) (fun q => x.kids.length - q.1.length) ([], v2, mw, it, mg) ⟨hit, by simpa using hS2, hD, hdr⟩ (ge_of ?_ ?_ rfl rfl rfl) ?_
    · simp [frIn, look]
    · simp [pvIn, look]
    clear hS hS2 hit hdr hD hseen hknw
    rintro ⟨ks, v3, mw, it, mg⟩ ⟨hI, hS, hD, hdr⟩
    simp only at hI hS hD hdr
    have hlk := iter_nodup hI hmap (hk.nod n x hx)
    generalize hQ2 : loopQ _ _ _ _ _ = Q2
    simp (maxSteps := 2000000) only [c_tree_Tree_whole_L0, vc_seq, vc_rg, segs_n, ops_cons, vcOp, ev, look, Nat.reduceEqDiff, ↓reduceIte, reduceCtorEq]
    refine ⟨it, _, ok, _, _, _, uni_one_self _ _ _, hsee, hmap, hI, fun hp => ?_, fun p it' hp hps hit' => ?_⟩
    · simp (maxSteps := 2000000) only [List.getElem?_cons_zero, vc_exit, vc_seq, vc_ite, thenQ_n, thenQ_e, kKeep_eq, segs_nil, ops_nil, ops_cons, vcOp, ev, look, put_mk, keep_mk, keepL, Nat.reduceEqDiff, ↓reduceIte, reduceCtorEq, ↓br_ft]
      subst hQ2
      simp (maxSteps := 2000000) only [blockQ_n, blockQ_e, loopQ_e, ↓reduceIte]
      subst hQ; simp only [loopQ_n]
      have hp' := rawK_perm hp
      have e1 : uni (one r it) (uni mw mg) = uni mw (uni (one r it) mg) := by
        rw [← uni_assoc, uni_comm (dis_of_uni_r hdr).1, uni_assoc]
      refine ⟨(vis ++ [n], ws ++ ks, v3, mw, uni (one r it) mg), ⟨hM.step hk hx hp', hS, dis_uni_r (dis_comm (dis_of_uni_r hdr).1) hD⟩, ?_, ge_of ?_ ?_ rfl rfl e1.symm⟩
      · simp only [List.length_append, List.length_cons, List.length_nil]; omega
      · simp [frIn, look]
      · simp [pvIn, look]
    · obtain ⟨c, hc, rfl⟩ := mem_rawK hp
      have hit2 : IterM it' ok (L (.kb n)) (rawK (ks ++ [c])) := by
        have e : rawK (ks ++ [c]) = rawK ks ++ [(.int .i64 c, .int .i64 1)] := by simp [rawK]
        rw [e]; exact hit'
      have hlen2 := iter_nodup hit2 hmap (hk.nod n x hx)
      simp only [List.length_append, List.length_cons, List.length_nil] at hlen2
      simp (maxSteps := 2000000) only [List.getElem?_cons_zero, vc_skip, vc_seq, vc_block, vc_rg, vc_ite, thenQ_n, kKeep_eq, segs_nil, segs_n, ops_nil, ops_cons, vcOp, ev, look, put_mk, keep_mk, keepL, Nat.reduceEqDiff, ↓reduceIte, reduceCtorEq, ↓br_tt]
      refine ⟨it', _, ok, _, _, _, _, .inl (upd_self _ _ _), hsee, hmap, hit', ?_⟩
      simp (maxSteps := 2000000) only [List.getElem?_cons_zero, vc_rg, thenQ_n, kKeep_eq, segs_nil, segs_n, ops_nil, ops_cons, vcOp, ev, evL, gvL, look, updL, put_mk, keep_mk, keepL, rowE, GV.sz, Nat.reduceEqDiff, ↓reduceIte, reduceCtorEq, Nat.zero_add, Bool.and_true, Bool.true_and, true_and, and_true, Option.map_some, szAll, List.length_cons, List.length_nil, List.drop_zero, List.take_succ_cons, List.take_zero]
      rw [uni_one_upd]
      have hdr' : dis (one r it') (uni mw mg) := dis_one_of hdr
      obtain ⟨hd1, hd2⟩ := dis_of_uni_r hdr'
      refine app_of rfl rfl mw (uni (one r it') mg) ((ws ++ ks).map gi) hS (by rw [← uni_assoc, uni_comm hd1, uni_assoc]) (dis_uni_r (dis_comm hd1) hD) (by simp only [List.length_map, List.length_append, List.length_cons, List.length_nil]; omega) fun v' u' hv' hs' hd' => ?_
      simp (maxSteps := 2000000) only [blockQ_n, kKeep_eq, segs_nil, ops_nil, ops_cons, vcOp, ev, look, put_mk, keep_mk, keepL, Nat.reduceEqDiff, ↓reduceIte, reduceCtorEq]
      subst hQ2; simp only [loopQ_n]
      obtain ⟨g1, g2⟩ := dis_of_uni_r hd'
      refine ⟨(ks ++ [c], v', u', it', mg), ⟨hit2, by simp only; rw [← List.append_assoc, List.map_append]; exact hs', g2, dis_uni_r (dis_comm g1) hd2⟩, ?_, ge_of ?_ ?_ rfl rfl (by rw [← uni_assoc, uni_comm (dis_comm g1), uni_assoc])⟩
      · simp only [List.length_append, List.length_cons, List.length_nil]; omega
      · simp [frIn, look]
      · simp [pvIn, look]
end Go.Proofs.YtmjiojflncffeaaGreat.Vc

