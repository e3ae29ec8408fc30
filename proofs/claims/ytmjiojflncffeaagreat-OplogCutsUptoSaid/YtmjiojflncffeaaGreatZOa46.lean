/- OplogCuts: where what is read is of bulk at most the row's bound, the law answers true and leaves its arguments as they were. -/
import Derived.Test.YtmjiojflncffeaaGreatZOa45
/- What Ops answers is an iterator over the operations that it captured. -/
set_option linter.unusedVariables false
set_option linter.unusedSimpArgs false
set_option maxRecDepth 100000
namespace Go.Proofs.YtmjiojflncffeaaGreat.Vc
open Go Go.Proofs Go.Shelf

theorem ops_spec {w : World} {u : PH} (hu : u.le w) {b : Nat} {L Lb : Lay} {p : PL} (hL : LogM u b L Lb p) (hl : p.ds.length ≤ 549755813888) :
    Spec Tryz.prog f_oplog_Log_Ops [ptr b] PH.no w fun rs m' => ∃ bo e v, rs = [.s (.func (.func f_oplog_Log_Ops_1) #[] #[ptr bo])] ∧ m' bo = some (.cells #[v] e (0, 0)) ∧ SlR m' v 22 (p.ds.map gDone) := by
  refine spec_of k_oplog_Log_Ops [.g (.s (ptr b))] (by simp) (by simp [AV.ok, GV.ok, Value.oneCell', ptr]) ?_
  obtain ⟨ov, mT, mB, hS, _, _, hs⟩ := hL.look
  simp (maxSteps := 2000000) only [c_oplog_Log_Ops, ptr, vc_seq, vc_rg, thenQ_n, kKeep_eq, segs_nil, segs_n, ops_nil, ops_cons, vcOp, ev, look, updL, put_mk, keep_mk, keepL, Value.oneCell', cond_true, ↓reduceIte, reduceCtorEq, Bool.true_and, true_and, initF, initP, ptr]
  refine call_ism _ [.s (.bool false)] rfl rfl (fun w' vs hv hw _ _ => ?_) ?_
  · obtain ⟨vs, rfl, _, hv⟩ := argsV_g hv
    obtain rfl := argsV_nil hv
    exact logNone_spec (fun b o h => hw b o (by rw [u0_no]; exact hu b o h)) hL
  simp (maxSteps := 2000000) only [retS, vc_rg, vc_ite, thenQ_n, kKeep_eq, segs_nil, segs_n, ops_nil, ops_cons, vcOp, ev, look, put_mk, keep_mk, keepL, unV, Nat.reduceEqDiff, ↓reduceIte, reduceCtorEq, Nat.zero_add, Bool.not_false, ↓br_tt]
  refine ld_of _ (hs (kn_u hu)).2.2.2.1 rfl ?_
  simp (maxSteps := 2000000) only [ops_cons, vcOp, put_mk]
  refine call_ownm rfl rfl (Q := fun rs m' => ∃ v', rs = [.s v'] ∧ SlO m' v' 97 22 (p.ds.map gDone)) (fun w' vs hv hw _ _ => ?_) fun rs m1 _ hq _ => ?_
  · obtain ⟨vs, rfl, _, hv⟩ := argsV_g hv
    obtain rfl := argsV_nil hv
    exact cloneD_spec w' ov p.ds hl u (fun b o h => hw b o (by rw [u0_no]; exact hu b o h)) hS
  obtain ⟨v1, rfl, hs1⟩ := hq
  have hv1 := hs1.one
  simp (maxSteps := 2000000) only [retS, uni_no_r, vc_seq, vc_rg, thenQ_n, kKeep_eq, segs_nil, segs_n, ops_nil, ops_cons, vcOp, ev, look, updL, put_mk, put_mk0, keep_mk, keepL, GV.getT, GV.sz, GV.same, GV.setT, Nat.reduceEqDiff, ↓reduceIte, reduceCtorEq, Bool.and_true, Bool.true_and, true_and, and_true]
  refine gh_pubBox 3 3 rfl rfl fun v u2 hv hp hd => ?_
  obtain ⟨hok, bo, e, rfl, rfl⟩ := hp
  simp (maxSteps := 2000000) only [dropK, vc_ret, thenQ_n, kKeep_eq, finQ_r, segs_nil, ops_nil, ops_cons, vcOp, ev, evL, scL, look, put_mk, keep_mk, keepL, cond_true, ↓reduceIte, BEq.rfl, Option.map_some, kill, SV.mentions]
  exact fin_m (rs := [.s (.func (.func f_oplog_Log_Ops_1) #[] #[ptr bo])]) _ rfl (fun _ _ h => h) ⟨bo, e, v1, rfl, by simp [uni, one, GV.flat], hs1.toR.up (sub_uni_r hd)⟩

def encD (x : Done) : List GV := [gOp x.op, .s (.bool x.taken)]
def encV (x : Done) : List Value := (encD x).map GV.val
theorem seen_c1 {C : Ctx} {ph : List PH} {m u : PH} (hk : KN C.u0 (m :: ph) u) {b : Nat} {cs : Array Value} {e : TypeId} {fz : Nat × Nat} (h : u b = some (.cells cs e fz)) {j : Nat} {v : Value} (hj : cs[j]? = some v) (hv : v.oneCell' = true) : Seen C ph m b j (.s v) := seen_cell hk h hj hv
noncomputable def o1W : Code := Tryz.f61.body.getD .skip
noncomputable def o1X : Code := atL (atL (atR o1W))
noncomputable def o1R : Code := atR (atR o1X)
noncomputable def o1S : Code := atL (atL o1R)
noncomputable def o1Y : Code := atL (atR o1S)
theorem o1_shape : o1W = .seq (atL o1W) (.block 0 (.loop (.seq (atL o1X) (.seq (.cond (.tmp 8) .skip (.exit 0)) (.seq (.block 1 (.seq (atL o1S) (.seq (.region (regId o1Y) (regOps o1Y) false) (.cond (.tmp 17) .ret .skip)))) (atR o1R)))))) := by kernel_rfl
theorem o1_ops : (regOps o1Y).all (dstOk 19) = true ∧ (regOps o1Y).all (guardOk (regOps o1Y)) = true ∧ (regOps o1Y).all plainO = true := ⟨by kernel_rfl, by kernel_rfl, by kernel_rfl⟩
noncomputable def o1o : Oper := ((regOps o1Y).toList[5]?).getD default
noncomputable def o1c : Call := match o1o.op with | .call c => c | _ => default
theorem o1_o : (regOps o1Y).toList.drop 5 = o1o :: (regOps o1Y).toList.drop 6 := by kernel_rfl
theorem o1_call : o1o.op = .call o1c ∧ o1o.guard = none ∧ o1o.dst = some 16 ∧ o1c.callee = .value (.tmp 11) ∧ o1c.args = #[.tmp 13, .tmp 15] := ⟨by kernel_rfl, by kernel_rfl, by kernel_rfl, by kernel_rfl, by kernel_rfl⟩

theorem slots_eval {N : Nat} {fr : List (Nat × SV)} {a : Act} (h : Slots N fr a) {t : Nat} {v : Value} (ht : look fr t = some (.g (.s v))) : a.eval (.tmp t) = v := by
  obtain ⟨g, e, _, h2⟩ := h.at' t _ ht
  cases e
  simp [Act.eval, h2, GV.val]
theorem slots_evalG {N : Nat} {fr : List (Nat × SV)} {a : Act} (h : Slots N fr a) {t : Nat} {g : GV} (ht : look fr t = some (.g g)) : a.eval (.tmp t) = g.val := by
  obtain ⟨g', e, _, h2⟩ := h.at' t _ ht
  cases e
  simp [Act.eval, h2]
theorem frG_of {fr : List (Nat × SV)} (h : fr.all (fun p => match p.2 with | .g _ => true | _ => false) = true) : frG fr := by
  intro t x hx
  induction fr with
  | nil => simp [look] at hx
  | cons p fr ih =>
    obtain ⟨k, y⟩ := p
    simp only [List.all_cons, Bool.and_eq_true] at h
    simp only [look] at hx
    split at hx
    · cases hx
      cases x with
      | g x => exact ⟨x, rfl⟩
      | _ => simp at h
    · exact ih h.2 hx
/-- The slots at the head of the loop. -/
def hd1 (yv v : Value) (n i : Nat) : List (Nat × SV) := [(0, .g (.s yv)), (5, .g (.s v)), (6, .g (.s (.int .i64 (n)))), (7, .g (.s (.int .i64 (i))))]
theorem o1_c0 (w : World) (ui : PH) (hu : ui.le w) {b : Nat} {e : TypeId} {v yv : Value} {n : Nat} {a : Option Addr} {c : Nat} (hv : v = .slice a n c) (hb : ui b = some (.cells #[v] e (0, 0))) :
    vc (cw Tryz.prog 19 w) (.rg [⟨none, [(some 5, .ld (.t 1) 1 false), (some 6, .len (.t 5)), (some 7, .mv (.c (.int .i64 0)))]⟩] [0, 5, 6, 7]) (pieceQ fun e fr => e = .normal ∧ fr = hd1 yv v n 0) ⟨[(0, .g (.s yv)), (1, .g (.s (.pointer (some ⟨b, 0, none⟩))))], [], [], PH.no⟩ := by
  have hk : ∀ {l : List PH}, KN (⟨Tryz.prog, 19, w, PH.no⟩ : Ctx).u0 l ui := kn_u hu
  subst hv
  simp (maxSteps := 2000000) only [vc_rg, segs_n, ops_cons, vcOp, ev, look, ↓reduceIte, reduceCtorEq]
  refine ld_of (.s (.slice a n c)) (seen_c1 hk hb (j := 0) (v := .slice a n c) rfl rfl) rfl ?_
  simp (maxSteps := 2000000) only [kKeep_eq, segs_nil, ops_nil, ops_cons, vcOp, ev, look, put_mk, keep_mk, keepL, Value.oneCell', cond_true, Nat.reduceEqDiff, ↓reduceIte, reduceCtorEq]
  exact ⟨.inl rfl, rfl, hd1 yv (.slice a n c) n 0, frG_of rfl, ⟨rfl, rfl⟩, fun t x hx => by simpa [hd1] using hx⟩
theorem o1_cA (w : World) {v yv : Value} {n i : Nat} :
    vc (cw Tryz.prog 19 w) (.rg [⟨none, [(some 8, .bin .lss (.t 7) (.t 6))]⟩] [0, 5, 6, 7, 8]) (pieceQ fun e fr => e = .normal ∧ fr = (8, .g (.s (.bool (decide ((i : Int) < n))))) :: hd1 yv v n i) ⟨hd1 yv v n i, [], [], PH.no⟩ := by
  unfold hd1
  simp (maxSteps := 2000000) only [vc_rg, kKeep_eq, segs_nil, segs_n, ops_nil, ops_cons, vcOp, ev, look, put_mk, keep_mk, keepL, binV, binC, Nat.reduceEqDiff, ↓reduceIte, reduceCtorEq, Bool.true_and, true_and]
  exact ⟨.inl rfl, rfl, _, frG_of rfl, ⟨rfl, rfl⟩, fun t x hx => by
    simp only [look] at hx ⊢
    (repeat' split at hx) <;> simp_all⟩
theorem o1_cE (w : World) {v yv : Value} {n i : Nat} (hn : n ≤ 9223372036854775800) (hi : i < n) :
    vc (cw Tryz.prog 19 w) (.rg [⟨none, [(some 18, .bin .add (.t 7) (.c (.int .i64 1))), (some 7, .mv (.t 18))]⟩] [0, 5, 6, 7]) (pieceQ fun e fr => e = .normal ∧ fr = hd1 yv v n (i + 1)) ⟨hd1 yv v n i, [], [], PH.no⟩ := by
  unfold hd1
  simp (maxSteps := 2000000) only [vc_rg, kKeep_eq, segs_nil, segs_n, ops_nil, ops_cons, vcOp, ev, look, put_mk, keep_mk, keepL, binV, binC, Value.oneCell', cond_true, Nat.reduceEqDiff, ↓reduceIte, reduceCtorEq, Bool.true_and, true_and]
  rw [wrap_n (by omega)]
  exact ⟨.inl rfl, rfl, _, frG_of rfl, ⟨rfl, rfl⟩, fun t x hx => by simpa using hx⟩
/-- Ahead of the call of yield: the variable of the round. -/
theorem o1_cB (w : World) (ui : PH) (hu : ui.le w) {yv : Value} {b0 o0 c : Nat} {xs : List Done} (hS : SlR ui (.slice (some ⟨b0, o0, none⟩) xs.length c) 22 (xs.map gDone)) {i : Nat} (hi : i < xs.length) :
    vc (cw Tryz.prog 19 w) (.rg [⟨none, [(some 9, .idxS (.t 5) (.t 7) 22), (some 10, .ld (.t 9) 22 true), (some 4, .new 97 (gDone zDone)), (none, .st (.t 4) (.t 10) 22)]⟩] [0, 4, 5, 6, 7])
      (fun e τ => e = .normal ∧ τ.ph = [] ∧ vcSegs (cw Tryz.prog 19 w) [⟨none, [(some 11, .mv (.t 0)), (some 12, .fldA (.t 4) 0 0), (some 13, .ld (.t 12) 8 true), (some 14, .fldA (.t 4) 1 8), (some 15, .ld (.t 14) 1 false)]⟩]
        (fun τ => τ.ph = [] ∧ ∀ t x, look ([(11, .g (.s yv)), (13, .g (gOp (xs.getD i zDone).op)), (15, .g (.s (.bool (xs.getD i zDone).taken)))] ++ hd1 yv (.slice (some ⟨b0, o0, none⟩) xs.length c) xs.length i) t = some x → look τ.fr t = some x) τ) ⟨hd1 yv (.slice (some ⟨b0, o0, none⟩) xs.length c) xs.length i, [], [], PH.no⟩ := by
  have hk : ∀ {l : List PH}, KN (⟨Tryz.prog, 19, w, PH.no⟩ : Ctx).u0 l ui := kn_u hu
  rcases hS.shape with ⟨h1, _⟩ | ⟨_, b, o, c', h2, h3, h4⟩
  · have : xs = [] := by simpa using h1
    subst this; simp at hi
  simp only [Value.slice.injEq, Option.some.injEq, List.length_map] at h2 h3
  obtain ⟨h2, _, rfl⟩ := h2
  cases h2
  have hseen := fun {C : Ctx} {ph : List PH} {m : PH} (hu : KN C.u0 (m :: ph) ui) => h4 hu i (gDone (xs.getD i zDone)) (by rw [List.getElem?_map, List.getD_eq_getElem?_getD, List.getElem?_eq_getElem hi]; rfl)
  generalize xs.getD i zDone = q at hseen ⊢
  unfold hd1
  simp (maxSteps := 2000000) only [vc_rg, segs_nil, segs_n, ops_nil, ops_cons, vcOp, ev, look, put_mk, rowD, Nat.reduceEqDiff, ↓reduceIte, reduceCtorEq, List.nil_append, List.cons_append, Nat.add_zero, Int.toNat_natCast]
  refine ⟨⟨by omega, by omega⟩, ld_of _ (hseen hk) rfl ?_⟩
  simp (maxSteps := 2000000) only [kKeep_eq, segs_nil, ops_nil, ops_cons, vcOp, ev, look, updL, put_mk, put_mk0, keep_mk, keepL, GV.getT, Nat.reduceEqDiff, ↓reduceIte, reduceCtorEq, List.nil_append, Bool.and_true, Bool.true_and, Bool.not_false, true_and, and_true, getT_nil, setT_nil, fits_s, gOp_fits, gDone_sz, gDone_same, gDone_fld0, gDone_get0, gDone_fld1, gDone_get1]
  intro t x hx
  (repeat' split at hx) <;> simp_all
theorem o1_cY (w : World) {yv v : Value} {n i : Nat} {b : Bool} :
    vcSegs (cw Tryz.prog 19 w) [⟨none, [(some 17, .un .not (.t 16))]⟩] (fun τ => τ.ph = [] ∧ ∀ t x, look ((17, .g (.s (.bool !b))) :: hd1 yv v n i) t = some x → look τ.fr t = some x) ⟨(16, .g (.s (.bool b))) :: hd1 yv v n i, [], [], PH.no⟩ := by
  unfold hd1
  simp (maxSteps := 2000000) only [segs_nil, segs_n, ops_nil, ops_cons, vcOp, ev, look, put_mk, unV, ↓reduceIte, Bool.true_and, true_and]
  intro t x hx
  (repeat' split at hx) <;> simp_all

theorem hd1_key {yv v : Value} {n i : Nat} {t : Nat} {x : SV} (h : look (hd1 yv v n i) t = some x) : t = 0 ∨ t = 5 ∨ t = 6 ∨ t = 7 := by
  simp only [hd1, look] at h
  split at h
  · exact .inl ‹_›
  · split at h
    · exact .inr (.inl ‹_›)
    · split at h
      · exact .inr (.inr (.inl ‹_›))
      · split at h
        · exact .inr (.inr (.inr ‹_›))
        · cases h
theorem look_pre {pre fr : List (Nat × SV)} {t : Nat} {x : SV} (h : look fr t = some x) (hn : look pre t = none) : look (pre ++ fr) t = some x := by
  rw [look_app, hn, h]; rfl
theorem Slots.sub {N : Nat} {fr fr' : List (Nat × SV)} {a : Act} (h : Slots N fr a) (hs : ∀ t x, look fr' t = some x → look fr t = some x) : Slots N fr' a := ⟨h.defers, h.size, fun t x hx => h.at' t x (hs t x hx)⟩
theorem ops1_iter (ui : PH) {b : Nat} {e : TypeId} {v : Value} {xs : List Done} (hb : ui b = some (.cells #[v] e (0, 0))) (hS : SlR ui v 22 (xs.map gDone)) (hl : xs.length ≤ 9223372036854775800) :
    Iter Tryz.prog f_oplog_Log_Ops_1 [ptr b] ui (xs.map encV) := by
  intro l J Jx W hu hJ hJx hY h0
  obtain ⟨yv, hyv⟩ : ∃ yv : Value, yv = .func (.yield l) #[] #[] := ⟨_, rfl⟩
  have hy1 : yv.oneCell' = true := by rw [hyv]; rfl
  obtain ⟨a0, c0, hv⟩ := slr_len hS
  rw [List.length_map] at hv
  have hbody : Tryz.f61.body = some o1W := by kernel_rfl
  refine callsIn_of_wp_marks Tryz.func61 hbody trivial ?_ rfl
  -- the end
  have fin : ∀ (fr : List (Nat × SV)) (a : Act) (w : World), Slots 19 fr a → (J xs.length w ∨ Jx w) → LeavesInM Fence.wide 0 Tryz.prog Tryz.f61 a.tmps (fun e W' => (∃ v, e = .returned v) ∧ (J (xs.map encV).length W' ∨ Jx W')) a.defers .returning w := fun fr a w hs h => by
    rw [hs.defers]
    have hres := (results_run (fn := Tryz.f61) (hs.rel (P := Tryz.prog) w) (rv := []) (rs := []) (by kernel_rfl) rfl).2
    exact ⟨_, hres, ⟨_, rfl⟩, by rw [List.length_map]; exact h⟩
  have hN : Tryz.f61.ntmps = 19 := by kernel_rfl
  have hs0 : Slots 19 [(0, .g (.s yv)), (1, .g (.s (.pointer (some ⟨b, 0, none⟩))))] { tmps := #[Value.func (.yield l) #[] #[]] ++ [ptr b].toArray ++ Array.replicate (Tryz.f61.ntmps - (#[Value.func (.yield l) #[] #[]] ++ [ptr b].toArray).size) undef, defers := [] } := by
    refine ⟨rfl, by rw [hN]; simp, fun t x hx => ?_⟩
    simp only [look] at hx
    split at hx
    · rename_i ht; subst ht; cases hx; exact ⟨_, rfl, hy1, by rw [hyv]; simp [GV.val]⟩
    · split at hx
      · rename_i ht; subst ht; cases hx; exact ⟨_, rfl, rfl, by simp [GV.val, ptr]⟩
      · cases hx
  rw [o1_shape]
  refine wpIn_seq (piece (P := Tryz.prog) (N := 19) (ns := []) (cd := .rg [⟨none, [(some 5, .ld (.t 1) 1 false), (some 6, .len (.t 5)), (some 7, .mv (.c (.int .i64 0)))]⟩] [0, 5, 6, 7]) (by kernel_rfl) rfl (by kernel_rfl) hs0 (o1_c0 W ui hu hv hb) fun e fr' a1 W1 hR hs1 hk1 _ => ?_)
  obtain ⟨rfl, rfl⟩ := hR
  have keep : ∀ {w w' : World}, ui.le w → Kept PH.no w w' → ui.le w' := fun {w w'} h hk b o hb => by
    have := h b o hb
    rw [hk.2.2.2.2 b (Array.getElem?_eq_some_iff.1 this).1 rfl]; exact this
  refine wpIn_block (wpIn_loop_ghost (fun k a w => ∃ i, i ≤ xs.length ∧ k = xs.length - i ∧ Slots 19 (hd1 yv v xs.length i) a ∧ ui.le w ∧ J i w) xs.length ⟨0, by omega, by omega, hs1, keep hu hk1, hJ 0 W W1 h0 hk1⟩ ?_)
  rintro k a w ⟨i, hi, rfl, hs, hui, hj⟩
  refine wpIn_seq (piece (P := Tryz.prog) (N := 19) (ns := []) (cd := .rg [⟨none, [(some 8, .bin .lss (.t 7) (.t 6))]⟩] [0, 5, 6, 7, 8]) (by kernel_rfl) rfl (by kernel_rfl) hs (o1_cA w) fun e fr' a2 w2 hR hs2 hk2 _ => ?_)
  obtain ⟨rfl, rfl⟩ := hR
  have hui2 := keep hui hk2
  have hj2 := hJ i w w2 hj hk2
  refine wpIn_seq (wpIn_cond_split (t := decide ((i : Int) < xs.length)) (slots_eval hs2 rfl) (fun ht => wpIn_skip ?_) (fun ht => wpIn_exit ?_))
  · have hlt : i < xs.length := by simpa using ht
    obtain ⟨b1, o1, c1, rfl⟩ : ∃ b1 o1 c1, v = .slice (some ⟨b1, o1, none⟩) xs.length c1 := by
      rcases hS.shape with ⟨h1, _⟩ | ⟨_, b1, o1, c1, h2, _⟩
      · have : xs = [] := by simpa using h1
        subst this; simp at hlt
      · rw [List.length_map] at h2
        exact ⟨b1, o1, c1, h2⟩
    have hs2' : Slots 19 (hd1 yv (.slice (some ⟨b1, o1, none⟩) xs.length c1) xs.length i) a2 := hs2.sub fun t x hx => look_pre (pre := [(8, _)]) hx (by rcases hd1_key hx with rfl | rfl | rfl | rfl <;> rfl)
    refine wpIn_seq (wpIn_block (wpIn_seq ?_))
    have hcB := vc_sound_round (C := cw Tryz.prog 19 w2) [] none _ (atL o1S) _ _ a2 w2 (by kernel_rfl) rfl (by kernel_rfl) (fun σ h => by cases h.1) (o1_cB w2 ui hui2 hS hlt) (hs2'.rel w2)
    refine wpIn_mono hcB fun e a3 w3 hq => ?_
    obtain ⟨τ, ⟨rfl, hph, hseg⟩, hrel⟩ := hq
    refine wpIn_seq (yield_reg (P := Tryz.prog) (N := 19) (C := cw Tryz.prog 19 w2) rfl rfl o1_ops.1 o1_ops.2.1 o1_ops.2.2 5 16 11 l o1o o1c o1_o o1_call.1 o1_call.2.1 o1_call.2.2.1 o1_call.2.2.2.1 _ [⟨none, [(some 17, .un .not (.t 16))]⟩] (by kernel_rfl) (by kernel_rfl) hrel _ hseg ?_)
    rintro τ1 a4 w4 ⟨hp1, hl1⟩ hr1
    obtain ⟨hs4, hk4⟩ := hr1.slots hp1 (frG_of rfl) hl1
    refine ⟨by rw [← hyv]; exact slots_eval hs4 rfl, ?_⟩
    have hargs : o1c.args.map a4.eval = (encV (xs.getD i zDone)).toArray := by
      rw [o1_call.2.2.2.2]
      simp only [List.map_toArray, List.map_cons, List.map_nil]
      rw [slots_evalG hs4 (t := 13) rfl, slots_evalG hs4 (t := 15) rfl]
      rfl
    rw [hargs]
    have hget : (xs.map encV)[i]? = some (encV (xs.getD i zDone)) := by
      rw [List.getElem?_map, List.getD_eq_getElem?_getD, List.getElem?_eq_getElem hlt]; rfl
    obtain ⟨fn, tmps, assign, body, hy, hround⟩ := hY i _ w4 hget (hJ i w2 w4 hj2 hk4)
    refine ⟨fn, tmps, assign, body, hy, hround.mono fun e w5 he => ?_⟩
    have putS : ∀ bb : Bool, Slots 19 ((16, .g (.s (.bool bb))) :: hd1 yv (.slice (some ⟨b1, o1, none⟩) xs.length c1) xs.length i) (a4.put (some 16) (.bool bb)) := fun bb => by
      refine ⟨hs4.defers, by simp [Act.put, hs4.size], fun t x hx => ?_⟩
      simp only [look] at hx
      split at hx
      · rename_i ht; subst ht; cases hx
        exact ⟨_, rfl, rfl, by simp only [Act.put]; rw [Array.getElem?_setIfInBounds_self_of_lt (by rw [hs4.size]; omega)]; rfl⟩
      · rename_i ht
        obtain ⟨g, rfl, h1, h2⟩ := hs4.at' t x (look_pre hx (by rcases hd1_key hx with rfl | rfl | rfl | rfl <;> rfl))
        exact ⟨g, rfl, h1, by simp only [Act.put]; rw [Array.getElem?_setIfInBounds_ne (fun e => ht e.symm)]; exact h2⟩
    rcases he with ⟨rfl, hj5, hui5⟩ | ⟨rfl, hjx⟩
    · refine ⟨true, rfl, _, _, putS true, o1_cY w5, fun τ2 a5 w6 hq2 hr2 => ?_⟩
      obtain ⟨hs6, hk6⟩ := hr2.slots hq2.1 (frG_of rfl) hq2.2
      refine wpIn_cond_split (t := !true) (slots_eval hs6 rfl) (fun ht => by cases ht) (fun ht => wpIn_skip ?_)
      have hs6' : Slots 19 (hd1 yv (.slice (some ⟨b1, o1, none⟩) xs.length c1) xs.length i) a5 := hs6.sub fun t x hx => look_pre (pre := [(17, _)]) hx (by rcases hd1_key hx with rfl | rfl | rfl | rfl <;> rfl)
      refine piece (P := Tryz.prog) (N := 19) (ns := []) (cd := .rg [⟨none, [(some 18, .bin .add (.t 7) (.c (.int .i64 1))), (some 7, .mv (.t 18))]⟩] [0, 5, 6, 7]) (code := atR o1R) (by kernel_rfl) rfl (by kernel_rfl) hs6' (o1_cE w6 hl hlt) fun e fr' a7 w7 hR hs7 hk7 _ => ?_
      obtain ⟨rfl, rfl⟩ := hR
      exact ⟨xs.length - (i + 1), by omega, i + 1, by omega, rfl, hs7, keep (keep hui5 hk6) hk7, hJ _ _ _ (hJ _ _ _ hj5 hk6) hk7⟩
    · refine ⟨false, rfl, _, _, putS false, o1_cY w5, fun τ2 a5 w6 hq2 hr2 => ?_⟩
      obtain ⟨hs6, hk6⟩ := hr2.slots hq2.1 (frG_of rfl) hq2.2
      refine wpIn_cond_split (t := !false) (slots_eval hs6 rfl) (fun ht => wpIn_ret ?_) (fun ht => by cases ht)
      exact fin _ a5 w6 hs6 (.inr (hJx _ _ hjx hk6))
  · have hge : i = xs.length := by
      have : ¬ (i : Int) < xs.length := by simpa using ht
      omega
    exact fin _ a2 w2 hs2 (.inl (hge ▸ hj2))
end Go.Proofs.YtmjiojflncffeaaGreat.Vc

/- A variable that was handed out is one's own again. -/
set_option linter.unusedVariables false
set_option linter.unusedSimpArgs false
namespace Go.Proofs.YtmjiojflncffeaaGreat.Vc
open Go Go.Shelf
section
variable {C : Ctx} {σ : SS} {a : Act} {w : World} {K : KT}
theorem Rel.ownBox (h : Rel C σ a w) {t : Nat} (k : Nat) {v : Value} {g : GV} {u m' : PH} (ht : look σ.fr t = some (.g (.s v))) (hk : look σ.pv k = none) (hp : PtO u v g) (hm : σ.m = uni u m') (hd : dis u m') :
    Rel C ⟨(t, .ref k []) :: σ.fr, (k, .box g) :: σ.pv, σ.ph, m'⟩ a w := by
  obtain ⟨loc, hF, hH⟩ := h
  obtain ⟨v', hv, hvs⟩ := hF.slots t _ ht
  have hvv : v' = v := hvs.2
  subst hvv
  have hmle : ∀ j, σ.m j = none → m' j = none := fun j hj => by
    rw [hm] at hj
    cases h1 : m' j with
    | none => rfl
    | some o => simp [uni, h1] at hj
  have hm'le : ∀ j o, m' j = some o → σ.m j = some o := fun j o hj => by
    rw [hm]; exact sub_uni_r hd j o hj
  obtain ⟨hok, b0, e, hv0, hu⟩ := hp
  have hub : u b0 = some (.cells g.flat.toArray e (0, 0)) := by rw [hu]; simp [one]
  have hmb : σ.m b0 = some (.cells g.flat.toArray e (0, 0)) := by rw [hm]; simp [uni, hub]
  have hb : w.heap[b0]? = some (.cells g.flat.toArray e (0, 0)) := hH.mle b0 _ hmb
  have hoff : g.offs [] = 0 := by cases g <;> rfl
  have hget : g.get [] = some g := by cases g <;> rfl
  refine ⟨fun j => if j = k then some (b0, 0, 0) else loc j, ⟨hF.defers, hF.size, fun s x hx => ?_⟩, ⟨hH.kept, fun j y hj => ?_, fun j j' y y' b o c o' c' g1 g2 g3 g4 g5 g6 => ?_, fun j y b o c g1 g2 g3 => ?_, fun j o hj => hH.mle j o (hm'le j o hj), fun j hj => hH.mmine j (fun e => hj (hmle j e)), fun u' hu => ⟨(hH.phs u' hu).1, fun j hj => ⟨((hH.phs u' hu).2 j hj).1, hmle j ((hH.phs u' hu).2 j hj).2⟩⟩⟩⟩
  · simp only [look] at hx
    split at hx
    · rename_i e1; subst e1
      simp at hx; subst hx
      exact ⟨v', hv, g, b0, 0, g, by simp [look], by simp, hget, by rw [hoff]; exact hv0⟩
    · obtain ⟨v2, hv2, hr2⟩ := hF.slots s x hx
      refine ⟨v2, hv2, hr2.weaken fun j hj => ?_⟩
      have hjk : j ≠ k := fun e => hr2.there j hj (e ▸ hk)
      exact ⟨by simp [hjk], by simp [look, hjk]⟩
  · simp only [look] at hj
    split at hj
    · rename_i e1; subst e1
      simp at hj; subst hj
      exact ⟨hok, b0, 0, e, by simp, hb⟩
    · rename_i hjk
      have hp := hH.pvs j y hj
      cases y with
      | box g => simpa [PVr, hjk] using hp
      | row e' z' df' xs' => simpa [PVr, hjk] using hp
      | ro z' df' xs' => simpa [PVr, hjk] using hp
  · simp only [look] at g1 g4
    by_cases hj : j = k
    · by_cases hj' : j' = k
      · rw [hj, hj']
      · simp only [hj, if_true] at g3
        simp only [hj', if_false] at g4 g6
        have e2 := (hH.priv j' y' b o' c' g4 g5 g6).2.1
        simp only [Option.some.injEq, Prod.mk.injEq] at g3
        rw [← g3.1, hmb] at e2; cases e2
    · simp only [hj, if_false] at g1 g3
      by_cases hj' : j' = k
      · simp only [hj', if_true] at g6
        have e2 := (hH.priv j y b o c g1 g2 g3).2.1
        simp only [Option.some.injEq, Prod.mk.injEq] at g6
        rw [← g6.1, hmb] at e2; cases e2
      · simp only [hj', if_false] at g4 g6
        exact hH.apart j j' y y' b o c o' c' g1 g2 g3 g4 g5 g6
  · simp only [look] at g1
    by_cases hj : j = k
    · simp only [hj, if_true, Option.some.injEq, Prod.mk.injEq] at g3
      obtain ⟨rfl, _, _⟩ := g3
      have hmb' : σ.m b0 ≠ none := by rw [hmb]; simp
      refine ⟨hH.mmine b0 hmb', (hd b0).resolve_left (by rw [hub]; simp), fun u' hu' => ?_⟩
      cases hub' : u' b0 with
      | none => rfl
      | some x => exact absurd ((hH.phs u' hu').2 b0 (by simp [hub'])).2 hmb'
    · simp only [hj, if_false] at g1 g3
      obtain ⟨e1, e2, e3⟩ := hH.priv j y b o c g1 g2 g3
      exact ⟨e1, hmle b e2, e3⟩
end
end Go.Proofs.YtmjiojflncffeaaGreat.Vc

/- OplogCuts, the walk. -/
set_option linter.unusedVariables false
set_option linter.unusedSimpArgs false
set_option maxRecDepth 100000
namespace Go.Proofs.YtmjiojflncffeaaGreat.Vc
open Go Go.Proofs Go.Shelf

/-- What is taken, one by one. -/
theorem LHist.at {mk : Value} {B : PT} {i0 ids : List Int} {ds : List Done} (h : LHist mk B i0 ds ids) {i : Nat} (hi : i < ds.length) : (ds.getD i zDone).taken = mayA (ideal B ((ds.take i).map (·.op))) (ds.getD i zDone).op := by
  have e : ds = ds.take (i + 1) ++ ds.drop (i + 1) := (List.take_append_drop _ _).symm
  rw [e] at h
  obtain ⟨i1, h1, _⟩ := h.drop
  rw [take_at hi zDone] at h1
  exact h1.taken
/-- Two logs of one history: the second begins behind what was cut. -/
structure Cutted (pa pb : PL) (t : Int) (l0 : List Op) : Prop where
  a : pa.ds.map (·.op) = l0 ++ pb.ds.map (·.op)
  B : pb.B = ideal pa.B l0
  low : ∀ op ∈ l0, op.stamp.time ≤ t
  high : ∀ d ∈ pb.ds, t < d.op.stamp.time
  ris : Rising (l0.map Op.k)
  fra : pa.fr = 0
  frb : pb.fr = t
  t0 : 0 ≤ t
section
variable {pa pb : PL} {t : Int} {l0 : List Op} {mka mkb : Value} {ka kb qa qb : Nat}
theorem Cutted.view (h : Cutted pa pb t l0) (ha : pa.good mka ka qa) (hb : pb.good mkb kb qb) : pa.T.view = pb.T.view := by
  rw [ha.fl.view, hb.fl.view, h.a, h.B, ideal_app]
theorem Cutted.len (h : Cutted pa pb t l0) : pa.ds.length = l0.length + pb.ds.length := by
  have := congrArg List.length h.a
  simpa using this
theorem Cutted.has (h : Cutted pa pb t l0) {op : Op} (ho : t < op.stamp.time) : hasA pa.ds op.k = hasA pb.ds op.k := by
  rw [hasA, hasA, decide_eq_decide]
  have e : pa.ds.map Done.k = l0.map Op.k ++ pb.ds.map Done.k := by
    have := congrArg (List.map Op.k) h.a
    rw [List.map_map, List.map_append, List.map_map] at this
    exact this
  rw [e, List.mem_append]
  refine ⟨fun hm => ?_, .inr⟩
  rcases hm with hm | hm
  · obtain ⟨x, hx, e⟩ := List.mem_map.1 hm
    have h1 := h.low x hx
    have : x.stamp.time = op.stamp.time := congrArg Prod.fst e
    omega
  · exact hm
theorem Cutted.look (h : Cutted pa pb t l0) {op : Op} (ho : t < op.stamp.time) : lookE pa.ds pa.fr [] [op] = lookE pb.ds pb.fr [] [op] := by
  rw [lookE_one, lookE_one, h.has ho]
  have h1 := h.t0
  rw [if_neg (c := op.stamp.time ≤ pa.fr) (by rw [h.fra]; omega), if_neg (c := op.stamp.time ≤ pb.fr) (by rw [h.frb]; omega)]
theorem Cutted.add (h : Cutted pa pb t l0) {op : Op} (ho : t < op.stamp.time) {pa' pb' : PL} {na nb : Int} (ha : pa'.good mka ka qa) (hb : pb'.good mkb kb qb) (h1 : Added pa [op] pa' na) (h2 : Added pb [op] pb' nb) : Cutted pa' pb' t l0 := by
  have hhigh : ∀ d ∈ pb'.ds, t < d.op.stamp.time := fun d hd => by
    rcases List.mem_append.1 (h2.perm.mem_iff.1 (List.mem_map.2 ⟨d, hd, rfl⟩)) with hm | hm
    · obtain ⟨y, hy, e⟩ := List.mem_map.1 hm
      rw [← e]; exact h.high y hy
    · rw [List.mem_singleton.1 hm]; exact ho
  refine ⟨?_, by rw [h2.B, h1.B]; exact h.B, h.low, hhigh, h.ris, h1.fr.trans h.fra, h2.fr.trans h.frb, h.t0⟩
  refine Rising.uniq (f := Op.k) ?_ (by rw [List.map_map]; exact ha.ris) ?_
  · refine h1.perm.trans ?_
    rw [h.a, List.append_assoc]
    exact h2.perm.symm.append_left l0
  · rw [Rising, List.map_append, List.pairwise_append]
    have hr : Rising ((pa'.ds.map (·.op)).map Op.k) := by rw [List.map_map]; exact ha.ris
    refine ⟨h.ris, by rw [List.map_map]; exact hb.ris, fun x hx y hy => ?_⟩
    obtain ⟨a, ha1, rfl⟩ := List.mem_map.1 hx
    rw [List.map_map] at hy
    obtain ⟨d, hd, rfl⟩ := List.mem_map.1 hy
    have h3 := h.low a ha1
    have h4 := hhigh d hd
    left
    show a.stamp.time < d.op.stamp.time
    omega
end
/-- What a cut makes of two logs of one history. -/
theorem cutted {pa pb : PL} {t : Int} {i1 : List Int} {mka mkb : Value} {ka kb qa qb : Nat} (ha : pa.good mka ka qa) (hb : pb.good mkb kb qb) (he : pa.ds.map (·.op) = pb.ds.map (·.op)) (hB : pa.B = pb.B) (hf : pa.fr = 0) (ht : 0 ≤ t) :
    Cutted pa (pb.cut t i1) t ((pb.ds.take (cutA pb.ds t)).map (·.op)) := by
  have e : pb.ds.take (cutA pb.ds t) = pb.ds.takeWhile fun d => decide (d.op.stamp.time ≤ t) := (List.prefix_iff_eq_take.1 (List.takeWhile_prefix _)).symm
  refine ⟨?_, ?_, fun op hop => ?_, fun d hd => ?_, ?_, hf, rfl, ht⟩
  · show _ = _ ++ (pb.ds.drop (cutA pb.ds t)).map (·.op)
    rw [← List.map_append, List.take_append_drop]
    exact he
  · show ideal pb.B _ = _
    rw [hB]
  · obtain ⟨d, hd, rfl⟩ := List.mem_map.1 hop
    rw [e] at hd
    have := List.all_takeWhile (p := fun d : Done => decide (d.op.stamp.time ≤ t)) (l := pb.ds)
    rw [List.all_eq_true] at this
    simpa using this d hd
  · have hd : d ∈ pb.ds.drop (cutA pb.ds t) := hd
    obtain ⟨j, hj, rfl⟩ := List.mem_iff_getElem.1 hd
    rw [List.length_drop] at hj
    rw [List.getElem_drop]
    have hlt : cutA pb.ds t < pb.ds.length := by omega
    have hfst : ¬ (pb.ds.getD (cutA pb.ds t) zDone).op.stamp.time ≤ t := by
      have key : ∀ (l : List Done), cutA l t < l.length → ¬ (l.getD (cutA l t) zDone).op.stamp.time ≤ t := by
        intro l
        induction l with
        | nil => intro h; simp at h
        | cons x l ih =>
          intro h
          by_cases hx : x.op.stamp.time ≤ t
          · have e2 : cutA (x :: l) t = cutA l t + 1 := by simp [cutA, List.takeWhile_cons, hx]
            rw [e2] at h ⊢
            simpa using ih (by simpa using h)
          · have e2 : cutA (x :: l) t = 0 := by simp [cutA, List.takeWhile_cons, hx]
            rw [e2]; simpa using hx
      exact key pb.ds hlt
    rcases Nat.eq_zero_or_pos j with rfl | hj0
    · rw [List.getD_eq_getElem?_getD, List.getElem?_eq_getElem hlt] at hfst
      simpa using hfst
    · have hr := rising_at hb.ris (i := cutA pb.ds t) (j := cutA pb.ds t + j) (by omega) (by omega)
      have e3 : pb.ds.getD (cutA pb.ds t + j) zDone = pb.ds[cutA pb.ds t + j] := by rw [List.getD_eq_getElem?_getD, List.getElem?_eq_getElem (by omega)]; rfl
      rw [e3] at hr
      rcases hr with hr | ⟨hr, _⟩
      · have : (pb.ds.getD (cutA pb.ds t) zDone).op.stamp.time < pb.ds[cutA pb.ds t + j].op.stamp.time := hr
        omega
      · have : (pb.ds.getD (cutA pb.ds t) zDone).op.stamp.time = pb.ds[cutA pb.ds t + j].op.stamp.time := hr
        omega
  · rw [List.map_map]
    exact List.Pairwise.sublist ((List.take_sublist _ _).map _) hb.ris
/-- Two logs that have the same find the same wrong with an operation. -/
theorem same_look {b b' : Nat} {m m' : PH} {L Lb L' Lb' : Lay} {p p' : PL} {l : List Op} (h : Way2 b m L Lb p l) (h' : Way2 b' m' L' Lb' p' l) (op : Op) : lookE p.ds p.fr [] [op] = lookE p'.ds p'.fr [] [op] := by
  have e : hasA p.ds op.k = hasA p'.ds op.k := by
    rw [hasA, hasA, decide_eq_decide]
    have h1 := (h.perm.trans h'.perm.symm).map Op.k
    rw [List.map_map, List.map_map] at h1
    exact h1.mem_iff
  rw [lookE_one, lookE_one, e, h.fr, h'.fr]
/-- What is taken, by stamp. -/
def tkn (ds : List Done) : List ((Int × Int) × Value) := ds.map fun d => (d.k, .bool d.taken)
theorem tkn_put {ds : List Done} {d : Done} (h : ∀ x ∈ ds, x.k ≠ d.k) (v : Value) : mput2 (tkn ds) d.k v = tkn ds ++ [(d.k, v)] := by
  induction ds with
  | nil => rfl
  | cons x l ih =>
    show (if x.k = d.k then (d.k, v) :: tkn l else (x.k, .bool x.taken) :: mput2 (tkn l) d.k v) = _
    rw [if_neg (h x (by simp)), ih fun y hy => h y (List.mem_cons_of_mem _ hy)]
    rfl
theorem tkn_get : ∀ {ds : List Done} {d : Done}, Rising (ds.map Done.k) → d ∈ ds → mget2 (tkn ds) d.k = some (.bool d.taken)
  | [], _, _, h => by cases h
  | x :: l, d, hr, h => by
    have hr' : (∀ y ∈ l, ltK x.k y.k) ∧ Rising (l.map Done.k) := by
      rw [Rising, List.map_cons, List.pairwise_cons] at hr
      exact ⟨fun y hy => hr.1 _ (List.mem_map.2 ⟨y, hy, rfl⟩), hr.2⟩
    show (if x.k = d.k then some (.bool x.taken) else mget2 (tkn l) d.k) = _
    rcases List.mem_cons.1 h with rfl | h
    · rw [if_pos rfl]
    · rw [if_neg (fun e => by have := hr'.1 d h; rw [e] at this; exact ltK_irrefl _ this)]
      exact tkn_get hr'.2 h
theorem seen_box {C : Ctx} {ph : List PH} {m u : PH} {b : Nat} {e : TypeId} {g : GV} (hu : u ∈ ph) (hb : u b = some (.cells g.flat.toArray e (0, 0))) (hg : g.ok) : Seen C ph m b 0 g :=
  seen_of (KN.mem (List.mem_cons_of_mem _ hu)) hb hg fun j v hj => by simpa using hj
/-- An operation of the second log is taken as it is in the first. -/
theorem Cutted.taken {pa pb : PL} {t : Int} {l0 : List Op} {mka mkb : Value} {ka kb qa qb : Nat} (h : Cutted pa pb t l0) (ha : pa.good mka ka qa) (hb : pb.good mkb kb qb) {d : Done} (hd : d ∈ pb.ds) : mget2 (tkn pa.ds) d.k = some (.bool d.taken) := by
  obtain ⟨i, hi, rfl⟩ := List.mem_iff_getElem.1 hd
  have hlen := h.len
  have ea : (pa.ds.getD (l0.length + i) zDone).op = pb.ds[i].op := by
    have := congrArg (fun l : List Op => l[l0.length + i]?) h.a
    simp only [List.getElem?_map] at this
    rw [List.getElem?_append_right (by omega), Nat.add_sub_cancel_left, List.getElem?_map, List.getElem?_eq_getElem (by omega : l0.length + i < pa.ds.length), List.getElem?_eq_getElem hi] at this
    rw [List.getD_eq_getElem?_getD, List.getElem?_eq_getElem (by omega : l0.length + i < pa.ds.length)]
    simpa using this
  have h1 := ha.fl.hist.at (i := l0.length + i) (by omega)
  have h2 := hb.fl.hist.at hi
  have e3 : pb.ds.getD i zDone = pb.ds[i] := by rw [List.getD_eq_getElem?_getD, List.getElem?_eq_getElem hi]; rfl
  have e4 : (pa.ds.take (l0.length + i)).map (·.op) = l0 ++ (pb.ds.take i).map (·.op) := by
    rw [List.map_take, h.a, List.take_append, List.map_take, List.take_of_length_le (by omega), Nat.add_sub_cancel_left]
  rw [e4, ideal_app, ← h.B, ea] at h1
  rw [e3] at h2
  rw [← h2] at h1
  have hk : (pa.ds.getD (l0.length + i) zDone).k = pb.ds[i].k := by show (pa.ds.getD (l0.length + i) zDone).op.k = pb.ds[i].op.k; rw [ea]
  have := tkn_get ha.ris (getD_in (by omega : l0.length + i < pa.ds.length) zDone)
  rw [hk, h1] at this
  exact this
theorem cw0_ps : (rfPs c_law13_OplogCuts_W0).toList = [124, 125] := by kernel_rfl
theorem cw1_ps : (rfPs c_law13_OplogCuts_W1).toList = [132, 133] := by kernel_rfl
theorem cw0_code : c_law13_OplogCuts_W0 = .rangeFunc (.tmp 123) (rfPs c_law13_OplogCuts_W0) (rfAs c_law13_OplogCuts_W0) (rfBd c_law13_OplogCuts_W0) := by kernel_rfl
theorem cw1_code : c_law13_OplogCuts_W1 = .rangeFunc (.tmp 131) (rfPs c_law13_OplogCuts_W1) (rfAs c_law13_OplogCuts_W1) (rfBd c_law13_OplogCuts_W1) := by kernel_rfl
theorem cw0_plain : plainC (rfAs c_law13_OplogCuts_W0) = true ∧ plainC (rfBd c_law13_OplogCuts_W0) = true := ⟨by kernel_rfl, by kernel_rfl⟩
theorem cw1_plain : plainC (rfAs c_law13_OplogCuts_W1) = true ∧ plainC (rfBd c_law13_OplogCuts_W1) = true := ⟨by kernel_rfl, by kernel_rfl⟩
theorem encs_val (ds : List Done) : (ds.map encD).map (fun x => x.map GV.val) = ds.map encV := by rw [List.map_map]; rfl
theorem encs_two {ds : List Done} {n : Nat} (hn : n = 2) : ∀ x ∈ ds.map encD, x.length = n := fun x hx => by
  obtain ⟨d, _, rfl⟩ := List.mem_map.1 hx
  rw [hn]; rfl
theorem encs_ok {ds : List Done} : ∀ x ∈ ds.map encD, ∀ g ∈ x, g.ok := fun x hx g hg => by
  obtain ⟨d, _, rfl⟩ := List.mem_map.1 hx
  simp only [encD, List.mem_cons, List.not_mem_nil, or_false] at hg
  rcases hg with rfl | rfl
  · exact gOp_ok _
  · rfl
/-- Both logs behind the cut. -/
structure Way3 (bA bB : Nat) (mA mB : PH) (LA LbA LB LbB : Lay) (pA pB : PL) (t : Int) (l0 : List Op) (kb : Nat) : Prop where
  MA : LogM mA bA LA LbA pA
  gA : pA.good (ptr (LA .mk)) 0 (tri pA.ds.length)
  MB : LogM mB bB LB LbB pB
  gB : pB.good (ptr (LB .mk)) kb (tri pA.ds.length)
  C : Cutted pA pB t l0
  d : dis mA mB
theorem cuts_spec (w : World) (v v2 : Value) (t : Int) (ops later : List Op) (hb : ops.length + later.length ≤ 1048576) (ho : ∀ op ∈ ops, OpIn op ∧ OpOk op) (ho2 : ∀ op ∈ later, OpIn op ∧ OpOk op) (h : SlR w.ph v 8 (ops.map gOp)) (h2 : SlR w.ph v2 8 (later.map gOp)) :
    Spec Tryz.prog f_law13_OplogCuts [v, v2, .int .i64 t] PH.no w fun rs _ => rs = [.s (.bool true)] := by
  refine spec_of k_law13_OplogCuts [.ro v 8 (gOp zOp) (ops.map gOp), .ro v2 8 (gOp zOp) (later.map gOp), .g (.s (.int .i64 t))] (by simp) (by simpa [AV.ok, u0_no, GV.ok, Value.oneCell'] using ⟨h, h2⟩) ?_
  simp (maxSteps := 2000000) only [c_law13_OplogCuts, vc_seq, vc_rg, thenQ_n, kKeep_eq, segs_nil, segs_n, ops_nil, ops_cons, vcOp, ev, look, updL, keep_mk, keepL, Nat.reduceEqDiff, Nat.reduceAdd, ↓reduceIte, reduceCtorEq, Nat.zero_add, Bool.true_and, true_and, initF, initP, Int.reduceAdd, List.length_map]
  refine call_ownm rfl rfl (Q := fun rs m' => ∃ b L Lb, rs = [.s (ptr b)] ∧ LogM m' b L Lb PL.new) (fun w' vs hv hw _ _ => ?_) fun rs mA _ hq _ => ?_
  · obtain rfl := argsV_nil hv
    exact logNew_spec w'
  obtain ⟨bA, LA, LbA, rfl, hA⟩ := hq
  simp (maxSteps := 2000000) only [retS, uni_no_r, ops_cons, vcOp, put_mk, ptr]
  refine call_ownm rfl rfl (Q := fun rs m' => ∃ b L Lb, rs = [.s (ptr b)] ∧ LogM m' b L Lb PL.new) (fun w' vs hv hw _ _ => ?_) fun rs mB _ hq hdB => ?_
  · obtain rfl := argsV_nil hv
    exact logNew_spec w'
  obtain ⟨bB, LB, LbB, rfl, hB⟩ := hq
  have hdB : dis mB mA := hdB
  simp (maxSteps := 2000000) only [retS, vc_seq, vc_rg, thenQ_n, kKeep_eq, segs_nil, segs_n, ops_nil, ops_cons, vcOp, ev, look, put_mk, keep_mk, keepL, Value.oneCell', cond_true, Nat.reduceEqDiff, ↓reduceIte, reduceCtorEq, ptr]
  rw [uni_comm hdB]
  refine eq_of (eqLog bA) ?_
  simp (maxSteps := 2000000) only [segs_g, ops_nil, ops_cons, vcOp, ev, look, put_mk, Value.oneCell', cond_true, Nat.reduceEqDiff, ↓reduceIte, reduceCtorEq, ↓br_ff, Bool.bne_false]
  refine eq_of (eqLog bB) ?_
  simp (maxSteps := 2000000) only [segs_n, segs_g, ops_nil, ops_cons, vcOp, ev, look, put_mk, Value.oneCell', cond_true, Nat.reduceEqDiff, ↓reduceIte, ↓br_ff, ↓br_ft, Bool.bne_false]
  refine call_ism _ [.s (.bool true)] rfl rfl (fun w' vs hv _ _ hm => ?_) ?_
  · obtain rfl := argsV_nil hv
    exact live13_spec w'
  simp (maxSteps := 2000000) only [retS, vc_skip, vc_seq, vc_block, vc_rg, vc_ite, thenQ_n, kKeep_eq, segs_nil, segs_n, ops_nil, ops_cons, vcOp, ev, look, put_mk, keep_mk, keepL, unV, Value.oneCell', cond_true, Nat.reduceEqDiff, ↓reduceIte, reduceCtorEq, Bool.not_true, ↓br_ft]
  refine vc_loop (ι := Nat × (Lay × PL × PH) × (Lay × PL × PH) × List Op) (fun x => ⟨[(1, .row 1 0 (later.length)), (5, .ref 5 []), (6, .ref 6 []), (7, .g (.s (.pointer (some ⟨bA, 0, none⟩)))), (8, .g (.s (.pointer (some ⟨bB, 0, none⟩)))), (40, .row 0 0 (ops.length)), (41, .g (.s (.int .i64 (ops.length)))), (42, .g (.s (.int .i64 (x.1))))], [(0, .ro 8 (gOp zOp) (ops.map gOp)), (1, .ro 8 (gOp zOp) (later.map gOp)), (5, .box (.s (.int .i64 t))), (6, .box (.s (.bool false)))], [], uni x.2.1.2.2 x.2.2.1.2.2⟩)
    (fun x => x.1 ≤ ops.length ∧ Way2 bA x.2.1.2.2 x.2.1.1 LbA x.2.1.2.1 x.2.2.2 ∧ Way2 bB x.2.2.1.2.2 x.2.2.1.1 LbB x.2.2.1.2.1 x.2.2.2 ∧ dis x.2.1.2.2 x.2.2.1.2.2 ∧ x.2.2.2.length ≤ x.1) (fun x => ops.length - x.1) (0, (LA, PL.new, mA), (LB, PL.new, mB), []) ⟨by simp, Way2.new hA, Way2.new hB, dis_comm hdB, Nat.le_refl _⟩ (ge_of ?_ ?_ rfl rfl rfl) ?_
  · simp [frIn, look]
  · simp [pvIn, look]
  clear hA hB hdB
  rintro ⟨i, ⟨LA, pA, mA⟩, ⟨LB, pB, mB⟩, l⟩ ⟨hi, hWA, hWB, hd, hll⟩
  simp only at hi hWA hWB hd hll
  have hpA := hWA.len
  have hpB := hWB.len
  generalize hQ : loopQ _ _ _ _ _ = Q
  simp (maxSteps := 2000000) only [c_law13_OplogCuts_L0, vc_skip, vc_exit, vc_seq, vc_block, vc_rg, vc_ite, thenQ_n, thenQ_e, kKeep_eq, segs_nil, segs_n, ops_nil, ops_cons, vcOp, ev, evL, gvL, look, updL, put_mk, put_mk0, keep_mk, keepL, rowE, rowD, binV, binC, Nat.reduceEqDiff, ↓reduceIte, reduceCtorEq, Nat.zero_add, Bool.and_true, Bool.true_and, true_and, and_true, Option.map_some, szAll, List.length_cons, List.length_nil, Int.toNat_natCast, decide_eq_true_eq, decide_eq_false_iff_not, br_t, getT_nil, setT_nil, gStamp_zero, gOp_sz, gOp_fits, gOp_same, gOp_zero, getD_gOp]
  refine ⟨fun hlt => ⟨⟨by omega, by omega⟩, ?_⟩, fun hge => ?_⟩
  · have hil : i < ops.length := by omega
    obtain ⟨op, hop⟩ : ∃ op, ops.getD i zOp = op := ⟨_, rfl⟩
    have hoo := ho op (hop ▸ getD_in hil zOp)
    rw [hop]
    have hsame := same_look hWA hWB op
    refine call_split mA mB rfl rfl rfl hd (Q := StepQ bA LA LbA pA 0 [op]) (fun w' vs hv _ _ _ => ?_) fun rs m1 _ hq hd1 => ?_
    · obtain ⟨vs, rfl, _, hv⟩ := argsB_g hv
      obtain ⟨v', vs, rfl, hs, hv⟩ := argsB_row (z := 8) (xs := [gOp op]) rfl rfl hv
      obtain rfl := argsB_nil hv
      exact one_split hWA.M hWA.good (by omega) hoo hs
    by_cases hlk : lookE pA.ds pA.fr [] [op] = 0
    · obtain ⟨LA', pA', nA, hL1, hL2, rfl, hM', hg', hAd⟩ := hq.2 hlk
      simp (maxSteps := 2000000) only [retS, List.getElem?_cons_succ, List.getElem?_cons_zero, vc_seq, vc_rg, thenQ_n, kKeep_eq, segs_nil, segs_n, ops_nil, ops_cons, vcOp, ev, evL, gvL, look, updL, put_mk, keep_mk, keepL, Nat.reduceEqDiff, ↓reduceIte, reduceCtorEq, Nat.zero_add, Bool.and_true, Bool.true_and, true_and, and_true, Option.map_some, szAll, List.length_cons, List.length_nil, getT_nil, gOp_sz, gOp_fits]
      refine call_split mB m1 rfl rfl (uni_comm hd1) (dis_comm hd1) (Q := StepQ bB LB LbB pB 0 [op]) (fun w' vs hv _ _ _ => ?_) fun rs m2 _ hq hd2 => ?_
      · obtain ⟨vs, rfl, _, hv⟩ := argsB_g hv
        obtain ⟨v', vs, rfl, hs, hv⟩ := argsB_row (z := 8) (xs := [gOp op]) rfl rfl hv
        obtain rfl := argsB_nil hv
        exact one_split hWB.M hWB.good (by omega) hoo hs
      obtain ⟨LB', pB', nB, hL1', hL2', rfl, hM2, hg2, hAd2⟩ := hq.2 (hsame ▸ hlk)
      rw [uni_comm hd2]
      simp (maxSteps := 2000000) only [retS, List.getElem?_cons_succ, List.getElem?_cons_zero, Int.reduceBNe, vc_skip, vc_seq, vc_rg, vc_ite, thenQ_n, blockQ_n, kKeep_eq, segs_nil, segs_n, ops_nil, ops_cons, vcOp, ev, look, put_mk, keep_mk, keepL, binV, binC, Value.oneCell', cond_true, Nat.reduceEqDiff, ↓reduceIte, Bool.true_and, true_and, ↓br_ft]
      subst hQ; simp only [loopQ_n]; refine ⟨(i + 1, (LA', pA', m1), (LB', pB', m2), l ++ [op]), ?_, ?_, ge_of ?_ ?_ rfl rfl rfl⟩
      · exact ⟨by simp only; omega, hWA.add hM' hL2 hg' hAd, hWB.add hM2 hL2' hg2 hAd2, dis_comm hd2, by simp; omega⟩
      · simp only; omega
      · simp only [frIn, look, Nat.reduceEqDiff, ↓reduceIte, Bool.and_true, Bool.true_and, true_and, and_true]
        rw [wrap_n (by omega)]
        try simp
      · simp [pvIn, look]
    · obtain ⟨rfl, hM'⟩ := hq.1 hlk
      simp (maxSteps := 2000000) only [retS, List.getElem?_cons_succ, List.getElem?_cons_zero, vc_seq, vc_rg, thenQ_n, kKeep_eq, segs_nil, segs_n, ops_nil, ops_cons, vcOp, ev, evL, gvL, look, updL, put_mk, keep_mk, keepL, Nat.reduceEqDiff, ↓reduceIte, reduceCtorEq, Nat.zero_add, Bool.and_true, Bool.true_and, true_and, and_true, Option.map_some, szAll, List.length_cons, List.length_nil, getT_nil, gOp_sz, gOp_fits]
      refine call_split mB m1 rfl rfl (uni_comm hd1) (dis_comm hd1) (Q := StepQ bB LB LbB pB 0 [op]) (fun w' vs hv _ _ _ => ?_) fun rs m2 _ hq hd2 => ?_
      · obtain ⟨vs, rfl, _, hv⟩ := argsB_g hv
        obtain ⟨v', vs, rfl, hs, hv⟩ := argsB_row (z := 8) (xs := [gOp op]) rfl rfl hv
        obtain rfl := argsB_nil hv
        exact one_split hWB.M hWB.good (by omega) hoo hs
      obtain ⟨rfl, hM2⟩ := hq.1 (hsame ▸ hlk)
      rw [uni_comm hd2]
      simp (maxSteps := 2000000) only [retS, List.getElem?_cons_succ, List.getElem?_cons_zero, hsame, bne_self_eq_false, vc_skip, vc_seq, vc_rg, vc_ite, thenQ_n, blockQ_n, kKeep_eq, segs_nil, segs_n, ops_nil, ops_cons, vcOp, ev, look, put_mk, keep_mk, keepL, binV, binC, Value.oneCell', cond_true, Nat.reduceEqDiff, ↓reduceIte, Bool.true_and, true_and, ↓br_ft]
      subst hQ; simp only [loopQ_n]; refine ⟨(i + 1, (LA, pA, m1), (LB, pB, m2), l), ?_, ?_, ge_of ?_ ?_ rfl rfl rfl⟩
      · exact ⟨by simp only; omega, ⟨hM', hWA.good, hWA.fr, hWA.B, hWA.perm⟩, ⟨hM2, hWB.good, hWB.fr, hWB.B, hWB.perm⟩, dis_comm hd2, by simp only; omega⟩
      · simp only; omega
      · simp only [frIn, look, Nat.reduceEqDiff, ↓reduceIte, Bool.and_true, Bool.true_and, true_and, and_true]
        rw [wrap_n (by omega)]
        try simp
      · simp [pvIn, look]
  · subst hQ
    have htq : tri pB.ds.length < 1099511627776 := by have := tri_le (n := pB.ds.length) (by omega); omega
    simp (maxSteps := 2000000) only [vc_seq, vc_rg, thenQ_n, blockQ_e, loopQ_e, segs_n, ops_cons, vcOp, ev, look, put_mk, GV.getT, Nat.reduceEqDiff, ↓reduceIte, reduceCtorEq, Bool.true_and, Bool.not_false, true_and, fits_s]
    refine call_with mB mA (dOk_spec rfl) rfl (uni_comm hd) (dis_comm hd) (Q := fun rs m' => (t < pB.fr ∨ 1099511627776 < t → rs = [.s (.int .i64 1)] ∧ LogM m' bB LB LbB pB) ∧
      (¬ (t < pB.fr ∨ 1099511627776 < t) → rs = [.s (.int .i64 0)] ∧ ∀ i1, ∃ Lb', Lb' .t = LbB .t ∧ LogM m' bB LB Lb' (pB.cut t i1))) (fun w' vs hv _ _ => ?_) fun rs m2 _ hq hd2 => ?_
    · obtain ⟨vs, rfl, _, hv⟩ := argsV_g hv
      obtain ⟨vs, rfl, _, hv⟩ := argsV_g hv
      obtain rfl := argsV_nil hv
      exact cut_spec w' mB bB LB LbB pB hWB.M hWB.good htq (by omega) t
    rw [hWB.fr] at hq
    by_cases hbad : t < 0 ∨ 1099511627776 < t
    · obtain ⟨rfl, _⟩ := hq.1 hbad
      simp (maxSteps := 2000000) only [retS, Int.reduceBNe, vc_ret, vc_seq, vc_rg, vc_ite, thenQ_n, thenQ_r, kKeep_eq, finQ_r, segs_nil, segs_n, segs_g, ops_nil, ops_cons, vcOp, RO.isGh, skip_mk, skipL, ev, look, updL, put_mk, put_mk0, keep_mk, keepL, binV, binC, GV.getT, GV.sz, GV.same, GV.setT, Value.oneCell', cond_true, cond_false, Nat.reduceEqDiff, ↓reduceIte, reduceCtorEq, Bool.and_true, Bool.true_and, Bool.not_false, true_and, and_true, decide_eq_true_eq, decide_eq_false_iff_not, ↓br_tt, ↓br_ft, br_f, fits_s]
      refine ⟨fun hn => fin_g (rs := [.s (.bool (decide (t > 1099511627776)))]) rfl (by rw [decide_eq_true (by omega)]), fun _ => fin_g (rs := [.s (.bool true)]) rfl rfl⟩
    have ht0 : 0 ≤ t := by omega
    obtain ⟨rfl, hcut⟩ := hq.2 hbad
    obtain ⟨i1, hgc⟩ := hWB.good.cut t
    obtain ⟨LbB', hLb, hMc⟩ := hcut i1
    have he : pA.ds.map (·.op) = pB.ds.map (·.op) := Rising.uniq (hWA.perm.trans hWB.perm.symm) hWA.rising hWB.rising
    have hC := cutted (i1 := i1) hWA.good hWB.good he (hWA.B.trans hWB.B.symm) hWA.fr ht0
    rw [uni_comm hd2]
    simp (maxSteps := 2000000) only [retS, Int.reduceBNe, vc_skip, vc_seq, vc_block, vc_rg, vc_ite, thenQ_n, kKeep_eq, segs_nil, segs_n, ops_nil, ops_cons, vcOp, ev, look, put_mk, keep_mk, keepL, binV, binC, Value.oneCell', cond_true, Nat.reduceEqDiff, ↓reduceIte, Bool.true_and, true_and, ↓br_ft]
    have hW3 : Way3 bA bB mA m2 LA LbA LB LbB' pA (pB.cut t i1) t ((pB.ds.take (cutA pB.ds t)).map (·.op)) (0 + cutA pB.ds t) := ⟨hWA.M, hWA.good, hMc, by rw [hpA, ← hpB]; exact hgc, hC, dis_comm hd2⟩
    have hfewA : pA.ds.length ≤ ops.length := by omega
    generalize pB.cut t i1 = pB' at hW3
    generalize (pB.ds.take (cutA pB.ds t)).map (·.op) = l0 at hW3
    generalize 0 + cutA pB.ds t = kb at hW3
    clear hcut hC he hgc hMc htq hWA hWB hpA hpB hd hd2 hLb hge hll
    refine vc_loop (ι := Nat × (Lay × PL × PH) × (Lay × PL × PH)) (fun x => ⟨[(5, .ref 5 []), (6, .ref 6 []), (7, .g (.s (.pointer (some ⟨bA, 0, none⟩)))), (8, .g (.s (.pointer (some ⟨bB, 0, none⟩)))), (74, .row 1 0 (later.length)), (75, .g (.s (.int .i64 (later.length)))), (76, .g (.s (.int .i64 (x.1))))], [(1, .ro 8 (gOp zOp) (later.map gOp)), (5, .box (.s (.int .i64 t))), (6, .box (.s (.bool false)))], [], uni x.2.1.2.2 x.2.2.2.2⟩)
      (fun x => x.1 ≤ later.length ∧ Way3 bA bB x.2.1.2.2 x.2.2.2.2 x.2.1.1 LbA x.2.2.1 LbB' x.2.1.2.1 x.2.2.2.1 t l0 kb ∧ x.2.1.2.1.ds.length ≤ ops.length + x.1) (fun x => later.length - x.1) (0, (LA, pA, mA), (LB, pB', m2)) ⟨by simp, hW3, by simpa using hfewA⟩ (ge_of ?_ ?_ rfl rfl rfl) ?_
    · simp [frIn, look]
    · simp [pvIn, look]
    clear hW3 hfewA
    rintro ⟨j, ⟨LA, pA, mA⟩, ⟨LB, pB, mB⟩⟩ ⟨hj, hW, hfew⟩
    simp only at hj hW hfew
    generalize hQ : loopQ _ _ _ _ _ = Q
    simp (maxSteps := 2000000) only [c_law13_OplogCuts_L1, vc_skip, vc_exit, vc_seq, vc_block, vc_rg, vc_ite, thenQ_n, thenQ_e, blockQ_e, kKeep_eq, segs_nil, segs_n, ops_nil, ops_cons, vcOp, ev, evL, gvL, look, updL, put_mk, put_mk0, keep_mk, keepL, rowE, rowD, binV, binC, GV.getT, Value.oneCell', cond_true, Nat.reduceEqDiff, ↓reduceIte, List.nil_append, List.cons_append, Nat.zero_add, Bool.and_true, Bool.true_and, Bool.not_false, true_and, and_true, Option.map_some, szAll, List.length_cons, List.length_nil, Int.toNat_natCast, decide_eq_true_eq, decide_eq_false_iff_not, br_t, getT_nil, setT_nil, fits_s, gStamp_fld0, gStamp_get0, gStamp_zero, gOp_sz, gOp_fits, gOp_same, gOp_fld0, gOp_get0, gOp_zero, getD_gOp]
    have next : ∀ {LA pA mA LB pB mB}, Way3 bA bB mA mB LA LbA LB LbB' pA pB t l0 kb → pA.ds.length ≤ ops.length + (j + 1) → j < later.length → ∀ {fr : List (Nat × SV)} {pv : List (Nat × PV)}, frIn fr [(5, .ref 5 []), (6, .ref 6 []), (7, .g (.s (.pointer (some ⟨bA, 0, none⟩)))), (8, .g (.s (.pointer (some ⟨bB, 0, none⟩)))), (74, .row 1 0 (later.length)), (75, .g (.s (.int .i64 (later.length)))), (76, .g (.s (.int .i64 (IntKind.i64.wrap ((j : Int) + 1)))))] → pvIn pv [(1, .ro 8 (gOp zOp) (later.map gOp)), (5, .box (.s (.int .i64 t))), (6, .box (.s (.bool false)))] → Q .normal ⟨fr, pv, [], uni mA mB⟩ := by
      intro LA pA mA LB pB mB hW' hf hlt fr pv hfr hpv
      subst hQ
      simp only [loopQ_n]
      refine ⟨(j + 1, (LA, pA, mA), (LB, pB, mB)), ⟨by simp only; omega, hW', hf⟩, by simp only; omega, ge_of ?_ hpv rfl rfl rfl⟩
      rw [wrap_n (by omega)] at hfr
      exact hfr
    refine ⟨fun hlt => ⟨⟨by omega, by omega⟩, ?_⟩, fun hge => ?_⟩
    · have hjl : j < later.length := by omega
      obtain ⟨op, hop⟩ : ∃ op, later.getD j zOp = op := ⟨_, rfl⟩
      have hoo := ho2 op (hop ▸ getD_in hjl zOp)
      rw [hop]
      have hlen := hW.C.len
      have ht1 := tri_step pA.ds.length 1 (Nat.le_refl _)
      have ht2 := tri_le (n := pA.ds.length + 1) (by omega)
      refine ⟨fun hle => next hW (by omega) hjl (by simp [frIn, look]) (by simp [pvIn, look]), fun hgt => ?_⟩
      have hgt : t < op.stamp.time := by omega
      have hsame := hW.C.look hgt
      have hLA := hW.MA
      have hLB := hW.MB
      refine call_split mA mB rfl rfl rfl hW.d (Q := AddQ bA LA LbA pA 0 (tri pA.ds.length) [op]) (fun w' vs hv _ _ _ => ?_) fun rs m1 _ hq hd1 => ?_
      · obtain ⟨vs, rfl, _, hv⟩ := argsB_g hv
        obtain ⟨v', vs, rfl, hs, hv⟩ := argsB_row (z := 8) (xs := [gOp op]) rfl rfl hv
        obtain rfl := argsB_nil hv
        exact add_spec w' mA bA LA LbA pA hW.MA hW.gA v' [op] ⟨by simp, by simpa using hoo⟩ hs (by simp; omega) (by omega)
      have callB : ∀ w' v', SlR (but w' mB) v' 8 [gOp op] → Spec Tryz.prog f_oplog_Log_Add [ptr bB, v'] mB w' (AddQ bB LB LbB' pB kb (tri pA.ds.length) [op]) := fun w' v' hs =>
        add_spec w' mB bB LB LbB' pB hW.MB hW.gB v' [op] ⟨by simp, by simpa using hoo⟩ hs (by simp; omega) (by omega)
      by_cases hlk : lookE pA.ds pA.fr [] [op] = 0
      · obtain ⟨LA', pA', nA, hL1, hL2, rfl, hM', hg', hAd⟩ := hq.2 hlk
        simp (maxSteps := 2000000) only [retS, List.getElem?_cons_succ, List.getElem?_cons_zero, vc_seq, vc_rg, thenQ_n, kKeep_eq, segs_nil, segs_n, ops_nil, ops_cons, vcOp, ev, evL, gvL, look, updL, put_mk, keep_mk, keepL, Nat.reduceEqDiff, ↓reduceIte, Nat.zero_add, Bool.and_true, Bool.true_and, true_and, and_true, Option.map_some, szAll, List.length_cons, List.length_nil, getT_nil, gOp_sz, gOp_fits]
        refine call_split mB m1 rfl rfl (uni_comm hd1) (dis_comm hd1) (Q := AddQ bB LB LbB' pB kb (tri pA.ds.length) [op]) (fun w' vs hv _ _ _ => ?_) fun rs m3 _ hq hd3 => ?_
        · obtain ⟨vs, rfl, _, hv⟩ := argsB_g hv
          obtain ⟨v', vs, rfl, hs, hv⟩ := argsB_row (z := 8) (xs := [gOp op]) rfl rfl hv
          obtain rfl := argsB_nil hv
          exact callB w' v' hs
        obtain ⟨LB', pB', nB, hL1', hL2', rfl, hM2, hg2, hAd2⟩ := hq.2 (hsame ▸ hlk)
        rw [uni_comm hd3]
        have hlA := ops_len hAd
        rw [List.length_singleton] at hlA hg' hg2
        simp (maxSteps := 2000000) only [retS, List.getElem?_cons_succ, List.getElem?_cons_zero, Int.reduceBNe, vc_skip, vc_seq, vc_rg, vc_ite, thenQ_n, blockQ_n, kKeep_eq, segs_nil, segs_n, ops_nil, ops_cons, vcOp, ev, look, put_mk, keep_mk, keepL, binV, binC, Value.oneCell', cond_true, Nat.reduceEqDiff, ↓reduceIte, Bool.true_and, true_and, ↓br_ft]
        refine next (LA := LA') (pA := pA') (mA := m1) (LB := LB') (pB := pB') (mB := m3) ⟨hM', by rw [hL2, hlA]; exact hg'.up (by omega), hM2, by rw [hL2', hlA]; exact hg2.up (by omega), hW.C.add hgt hg' hg2 hAd hAd2, dis_comm hd3⟩ (by omega) hjl (by simp [frIn, look]) (by simp [pvIn, look])
      · obtain ⟨rfl, hM'⟩ := hq.1 hlk
        simp (maxSteps := 2000000) only [retS, List.getElem?_cons_succ, List.getElem?_cons_zero, vc_seq, vc_rg, thenQ_n, kKeep_eq, segs_nil, segs_n, ops_nil, ops_cons, vcOp, ev, evL, gvL, look, updL, put_mk, keep_mk, keepL, Nat.reduceEqDiff, ↓reduceIte, Nat.zero_add, Bool.and_true, Bool.true_and, true_and, and_true, Option.map_some, szAll, List.length_cons, List.length_nil, getT_nil, gOp_sz, gOp_fits]
        refine call_split mB m1 rfl rfl (uni_comm hd1) (dis_comm hd1) (Q := AddQ bB LB LbB' pB kb (tri pA.ds.length) [op]) (fun w' vs hv _ _ _ => ?_) fun rs m3 _ hq hd3 => ?_
        · obtain ⟨vs, rfl, _, hv⟩ := argsB_g hv
          obtain ⟨v', vs, rfl, hs, hv⟩ := argsB_row (z := 8) (xs := [gOp op]) rfl rfl hv
          obtain rfl := argsB_nil hv
          exact callB w' v' hs
        obtain ⟨rfl, hM2⟩ := hq.1 (hsame ▸ hlk)
        rw [uni_comm hd3]
        simp (maxSteps := 2000000) only [retS, List.getElem?_cons_succ, List.getElem?_cons_zero, hsame, bne_self_eq_false, vc_skip, vc_seq, vc_rg, vc_ite, thenQ_n, blockQ_n, kKeep_eq, segs_nil, segs_n, ops_nil, ops_cons, vcOp, ev, look, put_mk, keep_mk, keepL, binV, binC, Value.oneCell', cond_true, Nat.reduceEqDiff, ↓reduceIte, Bool.true_and, true_and, ↓br_ft]
        exact next (LA := LA) (pA := pA) (mA := m1) (LB := LB) (pB := pB) (mB := m3) ⟨hM', hW.gA, hM2, hW.gB, hW.C, dis_comm hd3⟩ (by omega) hjl (by simp [frIn, look]) (by simp [pvIn, look])
    · subst hQ
      have hlen := hW.C.len
      have hqA : tri pA.ds.length + 4 < 1099511627776 := by have := tri_le (n := pA.ds.length) (by omega); omega
      have hview := hW.C.view hW.gA hW.gB
      have hd2 := hW.d
      simp (maxSteps := 2000000) only [vc_seq, vc_rg, thenQ_n, blockQ_e, loopQ_e, segs_n, ops_cons, vcOp, ev, look, put_mk, Nat.reduceEqDiff, ↓reduceIte]
      refine call_ownm rfl rfl (Q := fun rs m' => ∃ L' T', rs = [.s (ptr (L' .t))] ∧ TM m' L' T' ∧ T'.ok (tri pA.ds.length + 2) ∧ VGood T'.view ∧ T'.kidsOk ∧ T'.view = pA.T.view) (fun w' vs hv _ _ hm => ?_) fun rs mX _ hq hdX => ?_
      · obtain ⟨vs, rfl, _, hv⟩ := argsV_g hv
        obtain rfl := argsV_nil hv
        exact logTree_spec (u := mA) (fun b o h => hm b o (sub_uni_l _ _ b o h)) hW.MA hW.gA hqA
      obtain ⟨LX, TX, rfl, hTX, hokX, _, _, hvX⟩ := hq
      have hdX : dis mX (uni mA mB) := hdX
      simp (maxSteps := 2000000) only [retS, ops_cons, vcOp, ev, look, put_mk, Nat.reduceEqDiff, ↓reduceIte, ptr]
      refine call_ownm rfl rfl (Q := fun rs m' => ∃ L' T', rs = [.s (ptr (L' .t))] ∧ TM m' L' T' ∧ T'.ok (tri pA.ds.length + 2) ∧ VGood T'.view ∧ T'.kidsOk ∧ T'.view = pB.T.view) (fun w' vs hv _ _ hm => ?_) fun rs mY _ hq hdY => ?_
      · obtain ⟨vs, rfl, _, hv⟩ := argsV_g hv
        obtain rfl := argsV_nil hv
        exact logTree_spec (u := mB) (fun b o h => hm b o (sub_uni_r hdX b o (sub_uni_r hd2 b o h))) hW.MB hW.gB hqA
      obtain ⟨LY, TY, rfl, hTY, hokY, _, _, hvY⟩ := hq
      have hdY : dis mY (uni mX (uni mA mB)) := hdY
      simp (maxSteps := 2000000) only [retS, vc_seq, vc_rg, thenQ_n, kKeep_eq, segs_nil, segs_n, ops_nil, ops_cons, vcOp, ev, look, put_mk, keep_mk, keepL, Value.oneCell', cond_true, Nat.reduceEqDiff, ↓reduceIte, ptr]
      refine eq_of (eqTree _) ?_
      simp (maxSteps := 2000000) only [segs_g, ops_nil, ops_cons, vcOp, ev, look, put_mk, Value.oneCell', cond_true, Nat.reduceEqDiff, ↓reduceIte, ↓br_ff, Bool.bne_false]
      refine eq_of (eqTree _) ?_
      simp (maxSteps := 2000000) only [segs_n, segs_g, ops_nil, ops_cons, vcOp, ev, look, put_mk, Value.oneCell', cond_true, Nat.reduceEqDiff, ↓reduceIte, ↓br_ff, ↓br_ft, Bool.bne_false]
      have htold := (told_eq hokX hokY (hvX.trans (hview.trans hvY.symm))).1
      have sX : PH.sub mX (uni mY (uni mX (uni mA mB))) := PH.sub_trans (sub_uni_l _ _) (sub_uni_r hdY)
      have sY : PH.sub mY (uni mY (uni mX (uni mA mB))) := sub_uni_l _ _
      refine call_frzm rfl rfl (Q := fun rs m' => ∃ v ts, rs = [.s v] ∧ SlR m' v 4 (ts.map gTreeNode) ∧ TsOk m' ts (nodesTold TX)) (fun w' vs hv _ _ hm => ?_) fun rs m5 _ hq => ?_
      · obtain ⟨vs, rfl, _, hv⟩ := argsV_g hv
        obtain rfl := argsV_nil hv
        exact nodesT (fun b o h => hm b o (sX b o h)) hTX hokX (by omega)
      obtain ⟨vx, tx, rfl, hsx, htx⟩ := hq
      simp (maxSteps := 2000000) only [retS, ops_cons, vcOp, ev, look, put_mk, Nat.reduceEqDiff, ↓reduceIte]
      refine call_frzm rfl rfl (Q := fun rs m' => ∃ v ts, rs = [.s v] ∧ SlR m' v 4 (ts.map gTreeNode) ∧ TsOk m' ts (nodesTold TY)) (fun w' vs hv _ _ hm => ?_) fun rs m6 _ hq => ?_
      · obtain ⟨vs, rfl, _, hv⟩ := argsV_g hv
        obtain rfl := argsV_nil hv
        exact nodesT (fun b o h => hm b o (sY b o h)) hTY hokY (by omega)
      obtain ⟨vy, ty, rfl, hsy, hty⟩ := hq
      simp (maxSteps := 2000000) only [retS, ops_cons, vcOp, put_mk]
      have hlx := nodesTold_len TX
      have hmx := hokX.many
      refine call_ism _ [.s (.bool true)] rfl rfl (fun w' vs hv _ hph _ => ?_) ?_
      · obtain ⟨vs, rfl, _, hv⟩ := argsV_g hv
        obtain ⟨vs, rfl, _, hv⟩ := argsV_g hv
        obtain rfl := argsV_nil hv
        have s1 : PH.sub m5 w'.ph := hph m5 (by simp)
        have s2 : PH.sub m6 w'.ph := hph m6 (by simp)
        have := rSame_spec w' vx vy tx ty _ _ w'.ph (fun _ _ h => h) (hsx.up s1) (hsy.up s2) (htx.up s1) (hty.up s2) (by rw [htx.len]; omega) (fun t ht => by have := nodesTold_few hokX ht; omega)
        rw [decide_eq_true htold] at this
        exact this
      simp (maxSteps := 2000000) only [retS, vc_skip, vc_seq, vc_rg, vc_ite, thenQ_n, kKeep_eq, segs_nil, segs_n, ops_nil, ops_cons, vcOp, ev, look, put_mk, keep_mk, keepL, unV, Value.oneCell', cond_true, Nat.reduceEqDiff, ↓reduceIte, Bool.not_true, ↓br_ft]
      intro bm om hom hdm
      have hdm : dis (one bm om) (uni mY (uni mX (uni mA mB))) := hdm
      simp (maxSteps := 2000000) only [vc_seq, vc_rg, thenQ_n, kKeep_eq, segs_nil, segs_n, ops_nil, ops_cons, vcOp, ev, look, updL, put_mk, put_mk0, keep_mk, keepL, GV.getT, GV.sz, GV.same, GV.setT, Nat.reduceEqDiff, ↓reduceIte, Bool.and_true, Bool.true_and, true_and, and_true]
      refine gh_seq (gh_ge (τ := ⟨[(5, .ref 5 []), (6, .ref 6 []), (7, .g (.s (.pointer (some ⟨bA, 0, none⟩)))), (8, .g (.s (.pointer (some ⟨bB, 0, none⟩)))), (23, .ref 23 [])], [(5, .box (.s (.int .i64 t))), (6, .box (.s (.bool false))), (23, .box (.s (.map (some bm))))], [m6, m5], uni (one bm om) (uni mY (uni mX (uni mA mB)))⟩) (ge_of (by simp [frIn, look]) (by simp [pvIn, look]) rfl rfl rfl) ?_)
      refine gh_seq (gh_frz (uni_comm hdm) (dis_comm hdm) ?_)
      refine gh_seq (gh_pubBox 5 5 rfl rfl fun v5 u5 _ hp5 hd5 => ?_)
      refine gh_seq (gh_frz rfl hd5 ?_)
      refine gh_seq (gh_pubBox 23 23 rfl rfl fun v23 u23 _ hp23 hd23 => ?_)
      refine gh_seq (gh_frz rfl hd23 ?_)
      refine gh_pubBox 6 6 rfl rfl fun v6 u6 _ hp6 hd6 => ?_
      obtain ⟨_, b5, e5, rfl, rfl⟩ := hp5
      obtain ⟨_, b23, e23, rfl, rfl⟩ := hp23
      obtain ⟨_, b6, e6, rfl, rfl⟩ := hp6
      have hd6 : dis (one b6 (.cells (GV.s (.bool false)).flat.toArray e6 (0, 0))) (one bm om) := hd6
      have hb6 : b6 ≠ bm := fun e => by
        have := hd6 b6
        simp [one, e] at this
      generalize hR : uni mY (uni mX (uni mA mB)) = R at hdm ⊢
      have sA : PH.sub mA R := by rw [← hR]; exact PH.sub_trans (PH.sub_trans (sub_uni_l _ _) (sub_uni_r hdX)) (sub_uni_r hdY)
      have sB : PH.sub mB R := by rw [← hR]; exact PH.sub_trans (PH.sub_trans (sub_uni_r hd2) (sub_uni_r hdX)) (sub_uni_r hdY)
      simp (maxSteps := 2000000) only [dropK, ops_cons, vcOp, ev, look, put_mk, cond_true, cond_false, Nat.reduceEqDiff, Nat.reduceBEq, ↓reduceIte, BEq.rfl, kill, SV.mentions]
      generalize hu23 : one b23 (Obj.cells (GV.s (Value.map (some bm))).flat.toArray e23 (0, 0)) = u23
      generalize hu5 : one b5 (Obj.cells (GV.s (Value.int IntKind.i64 t)).flat.toArray e5 (0, 0)) = u5
      generalize hu6 : one b6 (Obj.cells (GV.s (Value.bool false)).flat.toArray e6 (0, 0)) = u6 at hd6
      have g23 : u23 b23 = some (.cells (GV.s (.map (some bm))).flat.toArray e23 (0, 0)) := by rw [← hu23]; exact one_self _ _
      have g5 : u5 b5 = some (.cells (GV.s (.int .i64 t)).flat.toArray e5 (0, 0)) := by rw [← hu5]; exact one_self _ _
      have n6 : u6 bm = none := by rw [← hu6]; simp [one, Ne.symm hb6]
      refine call_frzm rfl rfl (Q := fun rs m' => ∃ bo e v, rs = [.s (.func (.func f_oplog_Log_Ops_1) #[] #[ptr bo])] ∧ m' bo = some (.cells #[v] e (0, 0)) ∧ SlR m' v 22 (pA.ds.map gDone)) (fun w' vs hv _ hph _ => ?_) fun rs mW _ hq => ?_
      · obtain ⟨vs, rfl, _, hv⟩ := argsV_g hv
        obtain rfl := argsV_nil hv
        exact ops_spec (fun b o h => hph R (by simp) b o (sA b o h)) hW.MA (by omega)
      obtain ⟨bo, eo, vo, rfl, hbo, hso⟩ := hq
      simp (maxSteps := 2000000) only [retS, vc_block, thenQ_n, kKeep_eq, segs_nil, ops_nil, look, put_mk, keep_mk, keepL, Nat.reduceEqDiff, ↓reduceIte, ptr]
      refine raw_roundsG (ns := []) (code := c_law13_OplogCuts_W0) (t := 123) (gf := f_oplog_Log_Ops_1) (lb := [ptr bo]) (ui := mW) (encs := pA.ds.map encD) cw0_code rfl (enters_of Tryz.func61 (by kernel_rfl) rfl) (frG_of rfl) (List.mem_cons_self)
        (by rw [encs_val]; exact ops1_iter mW hbo hso (by omega)) (encs_two (by have := congrArg List.length cw0_ps; simpa using this)) encs_ok (fun x hx => by
          rw [cw0_ps] at hx
          simp only [List.mem_cons, List.not_mem_nil, or_false] at hx
          show x < 147
          rcases hx with rfl | rfl <;> decide)
        c_law13_OplogCuts_A0 c_law13_OplogCuts_B0 kA0_law13_OplogCuts rfl cw0_plain.1 kB0_law13_OplogCuts rfl cw0_plain.2
        (fun i _ m => ∃ o, m = uni u6 (one bm o) ∧ Map2 o (tkn (pA.ds.take i))) (fun _ _ _ => False) ⟨om, rfl, mapI_2 (hom none)⟩ ?_ ?_ ?_
      · intro i x w' m' ph m hx hu0 hph hI
        obtain ⟨o, rfl, hmo⟩ := hI
        rw [List.getElem?_map] at hx
        obtain ⟨d, hdi, rfl⟩ := Option.map_eq_some_iff.1 hx
        rw [cw0_ps]
        unfold encD
        simp (maxSteps := 2000000) only [c_law13_OplogCuts_A0, parFrG, List.nil_append, List.cons_append, vc_seq, vc_rg, thenQ_n, kKeep_eq, segs_nil, segs_n, ops_nil, ops_cons, vcOp, ev, look, updL, put_mk, put_mk0, keep_mk, keepL, Nat.reduceEqDiff, ↓reduceIte, List.nil_append, List.cons_append, Bool.and_true, Bool.true_and, true_and, and_true, getT_nil, setT_nil, gStamp_zero, gOp_sz, gOp_same, gOp_zero]
        refine gh_seq (gh_pubBox 24 24 rfl rfl fun v24 u24 _ hp24 hd24 => ?_)
        refine gh_frz rfl hd24 ?_
        obtain ⟨_, b24, e24, rfl, rfl⟩ := hp24
        generalize hu24 : one b24 (Obj.cells (gOp d.op).flat.toArray e24 (0, 0)) = u24
        have g24 : u24 b24 = some (.cells (gOp d.op).flat.toArray e24 (0, 0)) := by rw [← hu24]; exact one_self _ _
        simp (maxSteps := 2000000) only [dropK, kKeep_eq, segs_nil, ops_nil, look, keep_mk, keepL, cond_true, cond_false, Nat.reduceEqDiff, ↓reduceIte, BEq.rfl, kill, SV.mentions]
        refine ⟨fun u hu => List.mem_cons_of_mem _ hu, [(23, .g (.s (.pointer (some ⟨b23, 0, none⟩)))), (24, .g (.s (.pointer (some ⟨b24, 0, none⟩)))), (25, .g (.s (.bool d.taken)))], frG_of rfl, ?_, fun w2 m2 _ => ?_⟩
        · intro t x hx
          simp only [look] at hx ⊢
          (repeat' split at hx) <;> simp_all
        simp (maxSteps := 2000000) only [c_law13_OplogCuts_B0, vc_block, vc_rg, segs_n, ops_cons, vcOp, ev, look, ↓reduceIte]
        have m23 : u23 ∈ u24 :: ph := List.mem_cons_of_mem _ (hph u23 (by simp))
        refine ld_of _ (seen_box (g := .s (.map (some bm))) m23 g23 rfl) rfl ?_
        simp (maxSteps := 2000000) only [ops_cons, vcOp, ev, look, put_mk, Nat.reduceEqDiff, ↓reduceIte, Nat.add_zero]
        refine ld_of _ (seen_fst (seen_box (g := gOp d.op) List.mem_cons_self g24 (gOp_ok _))) (gStamp_fits _) ?_
        simp (maxSteps := 2000000) only [ops_cons, vcOp, ev, look, put_mk, Nat.reduceEqDiff, ↓reduceIte]
        have hbm : (uni u6 (one bm o)) bm = some o := by simp only [uni, n6]; exact one_self _ _
        refine ⟨d.k, o, _, rfl, hbm, hmo, fun o' ho' => ?_⟩
        rw [uni_upd n6, one_upd]
        have hdi2 : i < pA.ds.length := (List.getElem?_eq_some_iff.1 hdi).1
        have hdd : pA.ds.getD i zDone = d := by rw [List.getD_eq_getElem?_getD, hdi]; rfl
        rw [tkn_put (fun x hx => by
          obtain ⟨k, hk, rfl⟩ := List.mem_take_iff_getElem.1 hx
          have hr := rising_at hW.gA.ris (i := k) (j := i) (by omega) hdi2
          rw [hdd] at hr
          rw [List.getD_eq_getElem?_getD, List.getElem?_eq_getElem (by omega)] at hr
          intro e
          simp only [Option.getD_some] at hr
          rw [e] at hr
          exact ltK_irrefl _ hr)] at ho'
        simp (maxSteps := 2000000) only [blockQ_n, kKeep_eq, segs_nil, ops_nil, put_mk0, keep_mk, keepL]
        refine ⟨fun u hu => List.mem_cons_of_mem _ (hph u hu), o', rfl, ?_⟩
        rw [take_at hdi2 zDone, hdd]
        have e5 : tkn (pA.ds.take i ++ [d]) = tkn (pA.ds.take i) ++ [(d.k, .bool d.taken)] := by simp [tkn]
        rw [e5]
        exact ho'
      · intro u ph m hph hI
        obtain ⟨o, rfl, hmo⟩ := hI
        rw [List.length_map, List.take_length] at hmo
        simp (maxSteps := 2000000) only [vc_seq, vc_rg, thenQ_n, blockQ_n, segs_n, ops_cons, vcOp, ev, look, put_mk, Nat.reduceEqDiff, ↓reduceIte]
        have hR2 : R ∈ u :: ph := List.mem_cons_of_mem _ (hph R (by simp))
        have h23 : u23 ∈ u :: ph := List.mem_cons_of_mem _ (hph u23 (by simp))
        have h5 : u5 ∈ u :: ph := List.mem_cons_of_mem _ (hph u5 (by simp))
        generalize u :: ph = ph2 at hR2 h23 h5
        refine call_frzm rfl rfl (Q := fun rs m' => ∃ bo e v, rs = [.s (.func (.func f_oplog_Log_Ops_1) #[] #[ptr bo])] ∧ m' bo = some (.cells #[v] e (0, 0)) ∧ SlR m' v 22 (pB.ds.map gDone)) (fun w' vs hv _ hphs _ => ?_) fun rs mV _ hq => ?_
        · obtain ⟨vs, rfl, _, hv⟩ := argsV_g hv
          obtain rfl := argsV_nil hv
          exact ops_spec (fun b o h => hphs R hR2 b o (sB b o h)) hW.MB (by omega)
        obtain ⟨bo2, eo2, vo2, rfl, hbo2, hso2⟩ := hq
        simp (maxSteps := 2000000) only [retS, vc_block, thenQ_n, kKeep_eq, segs_nil, ops_nil, look, put_mk, keep_mk, keepL, Nat.reduceEqDiff, ↓reduceIte, ptr]
        refine raw_roundsG (ns := []) (code := c_law13_OplogCuts_W1) (t := 131) (gf := f_oplog_Log_Ops_1) (lb := [ptr bo2]) (ui := mV) (encs := pB.ds.map encD) cw1_code rfl (enters_of Tryz.func61 (by kernel_rfl) rfl) (frG_of rfl) (List.mem_cons_self)
          (by rw [encs_val]; exact ops1_iter mV hbo2 hso2 (by omega)) (encs_two (by have := congrArg List.length cw1_ps; simpa using this)) encs_ok (fun x hx => by
            rw [cw1_ps] at hx
            simp only [List.mem_cons, List.not_mem_nil, or_false] at hx
            show x < 147
            rcases hx with rfl | rfl <;> decide)
          c_law13_OplogCuts_A1 c_law13_OplogCuts_B1 kA1_law13_OplogCuts rfl cw1_plain.1 kB1_law13_OplogCuts rfl cw1_plain.2
          (fun _ _ m => m = uni u6 (one bm o)) (fun _ _ _ => False) rfl ?_ ?_ ?_
        · intro i x w' m' ph m hx hu0 hph3 hI
          subst hI
          rw [List.getElem?_map] at hx
          obtain ⟨d, hdi, rfl⟩ := Option.map_eq_some_iff.1 hx
          have hdm : d ∈ pB.ds := List.mem_of_getElem? hdi
          have hhigh := hW.C.high d hdm
          have htk := hW.C.taken hW.gA hW.gB hdm
          rw [cw1_ps]
          unfold encD
          simp (maxSteps := 2000000) only [c_law13_OplogCuts_A1, parFrG, List.nil_append, List.cons_append, vc_seq, vc_rg, thenQ_n, kKeep_eq, segs_nil, segs_n, ops_nil, ops_cons, vcOp, ev, look, updL, put_mk, put_mk0, keep_mk, keepL, Nat.reduceEqDiff, ↓reduceIte, List.nil_append, List.cons_append, Bool.and_true, Bool.true_and, true_and, and_true, getT_nil, setT_nil, gStamp_zero, gOp_sz, gOp_same, gOp_zero]
          refine gh_seq (gh_pubBox 26 26 rfl rfl fun v26 u26 _ hp26 hd26 => ?_)
          refine gh_frz rfl hd26 ?_
          obtain ⟨_, b26, e26, rfl, rfl⟩ := hp26
          generalize hu26 : one b26 (Obj.cells (gOp d.op).flat.toArray e26 (0, 0)) = u26
          have g26 : u26 b26 = some (.cells (gOp d.op).flat.toArray e26 (0, 0)) := by rw [← hu26]; exact one_self _ _
          simp (maxSteps := 2000000) only [dropK, kKeep_eq, segs_nil, ops_nil, look, keep_mk, keepL, cond_true, cond_false, Nat.reduceEqDiff, ↓reduceIte, BEq.rfl, kill, SV.mentions]
          refine ⟨fun u hu => List.mem_cons_of_mem _ hu, [(5, .g (.s (.pointer (some ⟨b5, 0, none⟩)))), (6, .g (.s (.pointer (some ⟨b6, 0, none⟩)))), (23, .g (.s (.pointer (some ⟨b23, 0, none⟩)))), (26, .g (.s (.pointer (some ⟨b26, 0, none⟩)))), (27, .g (.s (.bool d.taken)))], frG_of rfl, ?_, fun w2 m2 _ => ?_⟩
          · intro t x hx
            simp only [look] at hx ⊢
            (repeat' split at hx) <;> simp_all
          simp (maxSteps := 2000000) only [c_law13_OplogCuts_B1, vc_seq, vc_block, vc_rg, segs_n, ops_cons, vcOp, ev, look, put_mk, Nat.reduceEqDiff, ↓reduceIte, Nat.add_zero]
          have s26 : ∀ {C : Ctx} {m : PH}, Seen C (u26 :: ph) m b26 0 (gOp d.op) := fun {C m} => seen_box (g := gOp d.op) List.mem_cons_self g26 (gOp_ok _)
          refine ld_of _ (seen_fst (seen_fst s26)) rfl ?_
          simp (maxSteps := 2000000) only [ops_cons, vcOp, ev, look, put_mk, Nat.reduceEqDiff, ↓reduceIte]
          refine ld_of _ (seen_box (g := .s (.int .i64 t)) (List.mem_cons_of_mem _ (hph3 u5 (List.mem_cons_of_mem _ h5))) g5 rfl) rfl ?_
          simp (maxSteps := 2000000) only [vc_seq, vc_rg, vc_ite, thenQ_n, kKeep_eq, segs_nil, segs_n, segs_g, ops_nil, ops_cons, vcOp, RO.isGh, skip_mk, skipL, ev, look, put_mk, keep_mk, keepL, binV, binC, Value.oneCell', cond_true, cond_false, Nat.reduceEqDiff, ↓reduceIte, Bool.true_and, Bool.not_false, true_and, decide_eq_true_eq, decide_eq_false_iff_not, ↓br_tt, br_f]
          refine ⟨fun _ => ?_, fun hle => absurd hle (by omega)⟩
          refine ld_of _ (seen_box (g := .s (.map (some bm))) (List.mem_cons_of_mem _ (hph3 u23 (List.mem_cons_of_mem _ h23))) g23 rfl) rfl ?_
          simp (maxSteps := 2000000) only [ops_cons, vcOp, ev, look, put_mk, Nat.reduceEqDiff, ↓reduceIte, Nat.add_zero]
          refine ld_of _ (seen_fst s26) (gStamp_fits _) ?_
          simp (maxSteps := 2000000) only [ops_cons, vcOp, ev, look, put_mk, Nat.reduceEqDiff, ↓reduceIte]
          have hbm : (uni u6 (one bm o)) bm = some o := by simp only [uni, n6]; exact one_self _ _
          refine ⟨d.k, o, _, rfl, .inl hbm, hmo, ?_⟩
          rw [lkS2, cond_false, htk]
          simp (maxSteps := 2000000) only [Option.getD_some, ops_cons, vcOp, ev, look, put_mk, Nat.reduceEqDiff, ↓reduceIte]
          refine eq_of (eqG_bool Tryz.underlying4 _ _) ?_
          simp (maxSteps := 2000000) only [beq_self_eq_true, bne_self_eq_false, vc_skip, vc_ite, thenQ_n, blockQ_n, kKeep_eq, segs_nil, segs_n, ops_nil, ops_cons, vcOp, ev, look, put_mk, keep_mk, keepL, Value.oneCell', cond_true, Nat.reduceEqDiff, ↓reduceIte, ↓br_ft]
          exact ⟨fun u hu => List.mem_cons_of_mem _ (hph3 u hu), rfl⟩
        · intro u ph m hph hI
          subst hI
          simp (maxSteps := 2000000) only [vc_seq, vc_rg, thenQ_n, blockQ_n, segs_n, ops_cons, vcOp, ev, look, Value.oneCell', cond_true, Nat.reduceEqDiff, ↓reduceIte]
          have hm6 : (uni u6 (one bm o)) b6 = some (.cells #[.bool false] e6 (0, 0)) := by rw [← hu6]; simp [uni, one]; rfl
          refine st_of rfl _ e6 ⟨hm6, by simp⟩ ?_
          simp (maxSteps := 2000000) only [vc_ret, thenQ_n, kKeep_eq, finQ_r, segs_nil, ops_nil, look, put_mk0, keep_mk, keepL, Nat.reduceEqDiff, ↓reduceIte]
          rw [← hu6, uni_one_upd, show writeAt #[Value.bool false] 0 (GV.s (Value.bool true)).flat = #[Value.bool true] from rfl]
          have hd7 : dis (one b6 (.cells #[.bool true] e6 (0, 0))) (one bm o) := by
            rw [← hu6] at hd6
            exact dis_one (dis_comm (dis_one (dis_comm hd6) o)) _
          exact ⟨fun a w hR => ⟨_, [.s (.bool true)], PH.no, hR.ownBox (t := 6) (g := .s (.bool true)) 6 rfl rfl ⟨rfl, b6, e6, rfl, rfl⟩ rfl hd7, rfl, rfl, fun _ _ h => by cases h⟩⟩
        · intro e c u ph m _ _ h
          exact h.elim
      · intro e c u ph m _ _ h
        exact h.elim
end Go.Proofs.YtmjiojflncffeaaGreat.Vc

/- OplogCuts: where what is read is of bulk at most the row's bound, the law answers true and leaves its arguments as they were. -/
set_option linter.unusedVariables false
set_option linter.unusedSimpArgs false
set_option maxRecDepth 100000
namespace Go.Proofs.YtmjiojflncffeaaGreat.Vc
open Go Go.Proofs Go.Proofs.YtmjiojflncffeaaGreat Go.ChangeShapes Go.WideShapes Go.ChangeAt

theorem OplogCuts_open {H : Type} (enc : TypeId × Value → H) (W : World) (base : Nat) (vs : List Value) (h : RdBs enc Tryz.prog W base [22, 22, 2] vs 1048576) (_ : W.ShapedOpen Tryz.prog) : Spec Tryz.prog f_law13_OplogCuts vs PH.no W fun rs _ => rs = [.s (.bool true)] := by
  obtain ⟨v1, vs, a, b, rfl, hab, h1, g1, h⟩ := rdbs_cons h
  obtain ⟨v2, vs, a2, b2, rfl, hab2, h2, g2, h⟩ := rdbs_cons h
  obtain ⟨v3, vs, a3, b3, rfl, hab3, h3, g3, h⟩ := rdbs_cons h
  obtain rfl := rdbs_nil h
  obtain ⟨ops, k1, l1, o1⟩ := open_OpsIn h1 g1
  obtain ⟨later, k2, l2, o2⟩ := open_OpsIn h2 g2
  obtain ⟨⟨n, rfl, _⟩, _⟩ := rdv_sc (k := .i .i64) (by kernel_rfl) (by kernel_rfl) h3.v g3
  exact cuts_spec W v1 v2 n ops later (by omega) o1 o2 k1 k2

theorem OplogCuts_reads (os : Os) {H : Type} (enc : TypeId × Value → H) : ∃ places, DataW.whole enc Tryz.prog ((World.holding Tryz.prog os ⟨#[], #[], []⟩).forCall (fun _ _ => 0) ⟨#[], #[.slice none 0 0, .slice none 0 0, .int .i64 0], []⟩).memory Tryz.f7.params.toList Rows.oplogCutsSpec.vars false (#[.slice none 0 0, .slice none 0 0, .int .i64 0] : Array Value).toList 8 = some ([.nil, .nil, .lit (.int .i64 0)], [], places) :=
  ⟨[], by kernel_rfl⟩
theorem OplogCuts_lifted (os : Os) (started : os.Started) (H : Type) (enc : TypeId × Value → H) (F : Stop.Interp) :
    ReturnsInHanded {} Tryz.checked os f_law13_OplogCuts .any ((Rows.OpenSpec.upto Rows.oplogCutsSpec).preRow enc Tryz.prog Tryz.f7 Rows.oplogCutsUptoRow.domain false Rows.oplogCutsUptoRow.laid) (((Rows.OpenSpec.upto Rows.oplogCutsSpec).at F).post enc Tryz.prog Tryz.f7 false true false false) := by
  obtain ⟨places, hx⟩ := OplogCuts_reads os enc
  exact law_lifted_upto (C := Tryz.checked) Try_own Try_laidOut started (by kernel_rfl) Tryz.func7
    (witness_row_at (enc := enc) (C := Tryz.checked) false (World.holding Tryz.prog os ⟨#[], #[], []⟩) #[.slice none 0 0, .slice none 0 0, .int .i64 0] rfl (by kernel_rfl) (by kernel_rfl) (by kernel_rfl)
      (OpenSpec.preRow_of_cond 8 hx (by kernel_rfl) (fun k hk => by cases hk; kernel_rfl) (by kernel_rfl) (laidMet_of_run' 8 (by kernel_rfl) (by kernel_rfl))))
    (by kernel_rfl) rfl (tb := 4) (by kernel_rfl) (by kernel_rfl) (ts := [22, 22, 2]) (by kernel_rfl) (fun ds h => by match ds, h with | [d0, d1, d2], _ => rfl) (OplogCuts_open enc)
theorem OplogCuts_upto : Rows.OplogCutsUptoSaid :=
  OpenClaim.holds_of_cond f_law13_OplogCuts Tryz.f7 rfl rfl rfl rfl rfl rfl rfl ⟨rfl, rfl, rfl, rfl, rfl⟩ rfl rfl rfl rfl rfl (by kernel_rfl) Tryz.func7 (by kernel_rfl)
    (of_decide_eq_true (by kernel_rfl)) (by unfold Func.isWrapper; first | (rw [if_pos (by decide +kernel)]; kernel_rfl) | (rw [if_neg (by decide +kernel)]; exact ⟨rfl, rfl⟩))
    (fun os started H enc _ F => by rw [OpenClaim.pre_eq_preRow]; exact OplogCuts_lifted os started H enc F)
#print axioms OplogCuts_upto
end Go.Proofs.YtmjiojflncffeaaGreat.Vc

