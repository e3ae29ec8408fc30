/- PathNone: the law answers true and leaves its arguments as they were: the first form, and its card. -/
import Derived.ChangeKeysEq
import Derived.Laws.StructEq
import Derived.Test.YtnoeabmpdjpfaaaDoorProg
import Derived.ChangeSame
import Derived.JoinedOf
import Derived.JoinedAt
import Derived.JoinedStill
import Derived.WideKeyArgs
import Derived.OpenShut
import Derived.Deep.Slices
import Derived.SizedLaws
import Derived.HandedShaped
import Derived.Test.YtnoeabmpdjpfaaaDoorRows
import Derived.Deep.DeepHandedRow
import Derived.Test.YtnoeabmpdjpfaaaDoorCards
import Derived.Test.YtnoeabmpdjpfaaaDoorTie
import Derived.Deep.DeepWitnessRowRef
import Derived.Shelf.Vars
import Derived.Test.YtnoeabmpdjpfaaaDoorZPathNoneL2
/- When two plain values of a type are the same. -/
set_option linter.unusedVariables false
set_option linter.unusedSimpArgs false
namespace Go.Proofs.YtnoeabmpdjpfaaaDoor.Vc
open Go

def eqScB : Value → Value → Bool
  | .int _ a, .int _ b => a == b
  | .bool a, .bool b => a == b
  | .string a, .string b => decide (a = b)
  | _, _ => false

/-- Are two trees of one form the same? -/
def eqGV : GV → GV → Bool
  | .s a, .s b => eqScB a b
  | .u, .u => true
  | .c h t, .c h' t' => eqGV h h' && eqGV t t'
  | .ar n _ f, .ar _ _ g => (List.range n).all fun j => eqGV (f j) (g j)
  | _, _ => false

def kinV : Value → Value → Prop
  | .int k _, .int k' _ => k = k'
  | .bool _, .bool _ => True
  | .string _, .string _ => True
  | _, _ => False
/-- Of one form, and of the same kinds. -/
def kin : GV → GV → Prop
  | .s a, .s b => kinV a b
  | .u, .u => True
  | .c h t, .c h' t' => kin h h' ∧ kin t t'
  | .ar n e f, .ar n' e' g => n = n' ∧ e = e' ∧ ∀ j, j < n → kin (f j) (g j)
  | _, _ => False

theorem kin_same : ∀ (x y : GV), kin x y → GV.same x y
  | .s _, .s _, _ => trivial
  | .u, .u, _ => trivial
  | .c h t, .c h' t', k => ⟨kin_same h h' k.1, kin_same t t' k.2⟩
  | .ar _ _ f, .ar _ _ g, k => ⟨k.1, k.2.1, fun j hj => kin_same (f j) (g j) (k.2.2 j hj)⟩
  | .s _, .u, k | .s _, .c _ _, k | .s _, .ar _ _ _, k | .u, .s _, k | .u, .c _ _, k | .u, .ar _ _ _, k | .c _ _, .s _, k | .c _ _, .u, k | .c _ _, .ar _ _ _, k | .ar _ _ _, .s _, k | .ar _ _ _, .u, k | .ar _ _ _, .c _ _, k => k.elim

def chainB : Nat → GV → Bool
  | 0, .u => true
  | n + 1, .c _ t => chainB n t
  | _, _ => false

/-- Does a type's own tree stand so? -/
def eqShape (P : Program) : Nat → TypeId → GV → Bool
  | 0, _, _ => false
  | d + 1, t, z => match P.underlying t, z with
    | some (.int _), .s (.int _ _) => true
    | some .bool, .s (.bool _) => true
    | some .string, .s (.string _) => true
    | some (.array n e), .ar n' k f => n == n' && (match P.underlying e, P.info? e with
        | some dd, some i => k == i.size && (List.range n).all fun j => (f j).fits i.size (agD dd) && eqShape P d e (f j)
        | _, _ => false)
    | some (.struct fs), z => chainB fs.size z && !P.stoodInHeld t && (List.range fs.size).all fun i => match fs[i]? with
        | some f => f.name != "_" && (match P.underlying f.type, P.info? f.type with
          | some dd, some j => (z.get [i]).isSome && z.offs [i] == f.offset && (z.getT [i]).fits j.size (agD dd) && eqShape P d f.type (z.getT [i])
          | _, _ => false)
        | none => false
    | _, _ => false

theorem kin_get : ∀ (x z : GV) (p : List Nat), kin x z → ∀ y, z.get p = some y → ∃ uu, x.get p = some uu ∧ kin uu y ∧ x.offs p = z.offs p := by
  intro x z p hk y hy
  obtain ⟨e1, uu, e2, e3⟩ := GV.same_get z x p y (GV.same_symm _ _ (kin_same _ _ hk)) hy
  refine ⟨uu, e2, ?_, e1.symm⟩
  clear e1 e3
  induction p generalizing x z with
  | nil =>
    have h1 : x.get [] = some x := by cases x <;> rfl
    have h2 : z.get [] = some z := by cases z <;> rfl
    rw [h1] at e2; rw [h2] at hy
    simp at e2 hy; subst e2; subst hy
    exact hk
  | cons i p ih =>
    induction z generalizing x i with
    | s v => simp [GV.get] at hy
    | u => simp [GV.get] at hy
    | c h t ihh iht =>
      cases x with
      | c h' t' =>
        cases i with
        | zero => exact ih h' h hk.1 (by simpa [GV.get] using hy) (by simpa [GV.get] using e2)
        | succ i => exact iht (x := t') (i := i) hk.2 (by simpa [GV.get] using hy) (by simpa [GV.get] using e2)
      | _ => exact hk.elim
    | ar n e f ihf =>
      cases x with
      | ar n' e' g =>
        simp only [GV.get] at hy e2
        split at hy
        · rename_i hi
          split at e2
          · exact ih (g i) (f i) (hk.2.2 i (by rw [hk.1]; exact hi)) hy e2
          · cases e2
        · cases hy
      | _ => exact hk.elim

theorem kin_fits {x z : GV} (h : kin x z) (n : Nat) (b : Bool) (hf : z.fits n b = true) : x.fits n b = true := by
  have hs := GV.same_sz _ _ (kin_same _ _ h)
  cases x <;> cases z <;> first | exact h.elim | skip
  · exact hf
  · simpa [GV.fits, GV.sz] using hf
  · simp only [GV.fits] at hf ⊢; rw [hs]; exact hf
  · simp only [GV.fits] at hf ⊢; rw [hs]; exact hf

theorem eqGV_chain : ∀ (n : Nat) (x y z : GV), chainB n z = true → kin x z → kin y z → eqGV x y = (List.range n).all fun i => eqGV (x.getT [i]) (y.getT [i])
  | 0, x, y, .u, _, hx, hy => by
    cases x <;> first | exact hx.elim | skip
    cases y <;> first | exact hy.elim | skip
    rfl
  | n + 1, x, y, .c hz tz, hc, hx, hy => by
    cases x <;> first | exact hx.elim | skip
    cases y <;> first | exact hy.elim | skip
    rename_i h t h' t'
    have ih := eqGV_chain n t t' tz hc hx.2 hy.2
    simp only [eqGV, List.range_succ_eq_map, List.all_cons, List.all_map, ih, GV.getT, getT_nil]
    rfl
  | 0, _, _, .s _, hc, _, _ | 0, _, _, .c _ _, hc, _, _ | 0, _, _, .ar _ _ _, hc, _, _ | _ + 1, _, _, .s _, hc, _, _ | _ + 1, _, _, .u, hc, _, _ | _ + 1, _, _, .ar _ _ _, hc, _, _ => by cases hc

theorem chain_ns : ∀ (n : Nat) (z : GV), chainB n z = true → ∀ x, kin x z → ∀ v, x ≠ .s v
  | 0, .u, _, x, hk, v, e => by subst e; exact hk.elim
  | n + 1, .c _ _, _, x, hk, v, e => by subst e; exact hk.elim
  | 0, .s _, hc, _, _, _, _ | 0, .c _ _, hc, _, _, _, _ | 0, .ar _ _ _, hc, _, _, _, _ | _ + 1, .s _, hc, _, _, _, _ | _ + 1, .u, hc, _, _, _, _ | _ + 1, .ar _ _ _, hc, _, _, _, _ => by cases hc

theorem eqR_deep {P : Program} (e : Nat) : ∀ (d : Nat) (t : TypeId) (z x y : GV), eqShape P d t z = true → kin x z → kin y z → x.ok → y.ok → ∀ w, (Op.equalIn (e + d) t x.val y.val).run P w = .ok (eqGV x y) w := by
  intro d
  induction d with
  | zero => intro t z x y h; simp [eqShape] at h
  | succ d ih =>
    intro t z x y h hx hy okx oky w
    unfold eqShape at h
    rw [← Nat.add_assoc]
    split at h
    · rename_i q k m hu
      cases x <;> first | exact hx.elim | skip
      cases y <;> first | exact hy.elim | skip
      rename_i a b
      cases a <;> simp only [kin, kinV] at hx <;> first | exact hx.elim | skip
      cases b <;> simp only [kin, kinV] at hy <;> first | exact hy.elim | skip
      subst hx; subst hy
      exact run_equalIn_int w (e + d) t _ _ _ _ hu
    · rename_i q hu
      cases x <;> first | exact hx.elim | skip
      cases y <;> first | exact hy.elim | skip
      rename_i a b
      cases a <;> simp only [kin, kinV] at hx <;> first | exact hx.elim | skip
      cases b <;> simp only [kin, kinV] at hy <;> first | exact hy.elim | skip
      exact run_equalIn_bool' w (e + d) t _ _ hu
    · rename_i q hu
      cases x <;> first | exact hx.elim | skip
      cases y <;> first | exact hy.elim | skip
      rename_i a b
      cases a <;> simp only [kin, kinV] at hx <;> first | exact hx.elim | skip
      cases b <;> simp only [kin, kinV] at hy <;> first | exact hy.elim | skip
      rename_i s1 s2
      have := run_equalIn_string (P := P) w (e + d) t s1 s2 hu
      simp only [GV.val, eqGV, eqScB]
      rw [this, toList_eq']
    · rename_i n et n' k f hu
      simp only [Bool.and_eq_true, beq_iff_eq] at h
      obtain ⟨rfl, h⟩ := h
      split at h
      · rename_i dd i hdd hi
        simp only [Bool.and_eq_true, beq_iff_eq, List.all_eq_true, List.mem_range] at h
        obtain ⟨rfl, h⟩ := h
        cases x <;> first | exact hx.elim | skip
        cases y <;> first | exact hy.elim | skip
        rename_i n1 k1 f1 n2 k2 f2
        obtain ⟨rfl, rfl, hx⟩ := hx
        obtain ⟨rfl, rfl, hy⟩ := hy
        have hc : P.cellsOf et = i.size := by simp [Program.cellsOf, hi]
        simp only [GV.val]
        rw [run_equalIn_array w (e + d) _ _ hu hi, hc]
        have key : ∀ (is : List Nat), (∀ j ∈ is, j < n2) → (Op.eqItems (e + d) et i.size (GV.flat (.ar n2 i.size f1)).toArray (GV.flat (.ar n2 i.size f2)).toArray is).run P w = .ok (is.all fun j => eqGV (f1 j) (f2 j)) w := by
          intro is
          induction is with
          | nil => intro _; simp [Op.eqItems]
          | cons j is ihl =>
            intro hj
            have hjn := hj j (by simp)
            obtain ⟨g1, g2⟩ := GV.get_ar n2 i.size f1 j hjn
            obtain ⟨g3, g4⟩ := GV.get_ar n2 i.size f2 j hjn
            have hf := (h j hjn).1
            have p1 := run_part (P := P) hdd hi okx g1 (kin_fits (hx j hjn) _ _ hf) w
            have p2 := run_part (P := P) hdd hi oky g3 (kin_fits (hy j hjn) _ _ hf) w
            rw [g2] at p1; rw [g4] at p2
            have p3 := ih et (f j) (f1 j) (f2 j) (h j hjn).2 (hx j hjn) (hy j hjn) (okx j hjn).1 (oky j hjn).1 w
            simp only [Op.eqItems, Sem.run_bind, p1, p2, p3, Result.andThen_ok, List.all_cons]
            cases hr : eqGV (f1 j) (f2 j)
            · simp
            · simpa using ihl (fun j hj' => hj j (by simp [hj']))
        exact key _ (fun j hj => List.mem_range.1 hj)
      · cases h
    · rename_i zz _ _ fs hu
      simp only [Bool.and_eq_true, Bool.not_eq_true', List.all_eq_true, List.mem_range] at h
      obtain ⟨⟨hch, hst⟩, h⟩ := h
      have hfs : P.fieldsOf t = fs := by simp [Program.fieldsOf, hu]
      rw [val_agg (chain_ns _ _ hch x hx), val_agg (chain_ns _ _ hch y hy), run_equalIn_struct w (e + d) t _ _ (by rw [hfs]; exact hu) hst, hfs, eqGV_chain _ _ _ _ hch hx hy]
      have key : ∀ (l : List Field) (k : Nat), (∀ j, l[j]? = fs[k + j]?) → (Op.eqFields (e + d) (GV.flat x).toArray (GV.flat y).toArray l).run P w = .ok ((List.range' k l.length).all fun i => eqGV (x.getT [i]) (y.getT [i])) w := by
        intro l
        induction l with
        | nil => intro k _; simp [Op.eqFields]
        | cons f l ihl =>
          intro k hl
          have h0 : fs[k]? = some f := by simpa using (hl 0).symm
          have hk : k < fs.size := (Array.getElem?_eq_some_iff.1 h0).1
          have h1 := h k hk
          rw [h0] at h1
          simp only [Bool.and_eq_true, bne_iff_ne, ne_eq] at h1
          obtain ⟨hn, h1⟩ := h1
          split at h1
          · rename_i dd i hdd hi
            simp only [Bool.and_eq_true, beq_iff_eq] at h1
            obtain ⟨⟨⟨hs, ho⟩, hfit⟩, hsh⟩ := h1
            obtain ⟨uu, hu'⟩ := Option.isSome_iff_exists.mp hs
            obtain ⟨u1, a1, a2, a3⟩ := kin_get x zz [k] hx uu hu'
            obtain ⟨u2, b1, b2, b3⟩ := kin_get y zz [k] hy uu hu'
            rw [GV.getT_of zz [k] uu hu'] at hfit hsh
            have p1 := run_part (P := P) hdd hi okx a1 (kin_fits a2 _ _ hfit) w
            have p2 := run_part (P := P) hdd hi oky b1 (kin_fits b2 _ _ hfit) w
            rw [a3, ho] at p1; rw [b3, ho] at p2
            have p3 := ih f.type uu u1 u2 hsh a2 b2 (GV.get_at x [k] u1 okx a1).1 (GV.get_at y [k] u2 oky b1).1 w
            have ihl' := ihl (k + 1) (fun j => by have := hl (j + 1); simpa [Nat.add_assoc, Nat.add_comm 1 j] using this)
            simp only [Op.eqFields, hn, ne_eq, not_false_eq_true, if_true, Sem.run_bind, p1, p2, p3, Result.andThen_ok, List.length_cons, List.range'_succ, List.all_cons, GV.getT_of x [k] u1 a1, GV.getT_of y [k] u2 b1]
            cases hr : eqGV u1 u2
            · simp
            · simpa using ihl'
          · cases h1
      have := key fs.toList 0 (by simp)
      rw [this]
      simp [List.range_eq_range']
    · cases h

theorem eqG_of {P : Program} {t : TypeId} {z x y : GV} (h1 : eqShape P 20 t z = true) (h2 : P.eqGuardType P.depth t = false) (hn : z.isS = false) (hx : kin x z) (hy : kin y z) (okx : x.ok) (oky : y.ok) : EqG P t x y (eqGV x y) := by
  have key : ∀ uu, kin uu z → uu.val = .agg (GV.flat uu).toArray := fun uu hu => val_agg (fun v e => by
    subst e
    cases z <;> first | exact hu.elim | skip
    cases hn)
  have h := fun w => eqR_deep (P := P) 9980 20 t z x y h1 hx hy okx oky w
  intro a b w
  have hw := h w
  rw [key x hx, key y hy] at hw ⊢
  constructor
  · rw [Sem.run_bind, run_eqGuard_agg w _ _ _ _ _ _ h2, Result.andThen_ok, run_eql_struct w, hw]; rfl
  · rw [Sem.run_bind, run_eqGuard_agg w _ _ _ _ _ _ h2, Result.andThen_ok, run_neq_struct w, hw]; rfl

theorem eqG_bool {P : Program} {t : TypeId} (hu : P.underlying t = some .bool) (a b : Bool) : EqG P t (.s (.bool a)) (.s (.bool b)) (a == b) := by
  intro x y w
  have h : (Op.equal t (.bool a) (.bool b)).run P w = .ok (a == b) w := run_equalIn_bool' w 9999 t a b hu
  constructor <;> simp [eqGuard, binOp, GV.val, Sem.run_bind, h]

end Go.Proofs.YtnoeabmpdjpfaaaDoor.Vc

/- Names: what the functions compute. -/
set_option linter.unusedVariables false
set_option linter.unusedSimpArgs false
set_option maxRecDepth 100000
namespace Go.Proofs.YtnoeabmpdjpfaaaDoor.Vc
open Go Go.Proofs

theorem mkS_eq (n l : List UInt8) : (mkS n = mkS l) = (n = l) := propext ⟨mkS_inj, fun h => by rw [h]⟩
theorem mkS_e0 (n : List UInt8) : (mkS n = ⟨#[]⟩) = (n = []) := mkS_eq n []
theorem mkS_e46 (n : List UInt8) : (mkS n = ⟨#[46]⟩) = (n = [46]) := mkS_eq n [46]
theorem mkS_e4646 (n : List UInt8) : (mkS n = ⟨#[46, 46]⟩) = (n = [46, 46]) := mkS_eq n [46, 46]
theorem mkS_e47 (n : List UInt8) : (mkS n = ⟨#[47]⟩) = (n = [47]) := mkS_eq n [47]
theorem mkS_at (n : List UInt8) (i : Nat) : (mkS n).data.getD i 0 = n.getD i 0 := by simp [mkS, Array.getD_eq_getD_getElem?, List.getD_eq_getElem?_getD]
theorem mkS_ext (n : List UInt8) (a b : Nat) : (mkS n).extract a b = mkS ((n.drop a).take (b - a)) := by
  apply ByteArray.ext
  simp [mkS, ByteArray.data_extract]
theorem getD_gb (n : List UInt8) (i : Nat) : (n.map gb).getD i (gb 0) = .s (.int .u8 (n.getD i 0).toNat) := by
  rw [List.getD_eq_getElem?_getD, List.getElem?_map, List.getD_eq_getElem?_getD]
  cases n[i]? <;> rfl
theorem byte47 (b : UInt8) : ((b.toNat : Int) == 47) = (b == 47) := by
  by_cases h : b = 47
  · subst h; rfl
  · have h2 : b.toNat ≠ 47 := fun e => h (by rw [← UInt8.ofNat_toNat (x := b), e]; rfl)
    rw [show (b == 47) = false by simpa using h]
    simpa using fun e => h2 (by omega)

theorem nameA_bad {n : List UInt8} (h : n = [] ∨ ¬ n.length ≤ 255 ∨ n = [46] ∨ n = [46, 46]) : nameA n = false := by
  rcases h with rfl | h | rfl | rfl
  · rfl
  · simp [nameA]; intro _ h2; omega
  · decide
  · decide
theorem nameA_slash {n : List UInt8} {i : Nat} (hi : i < n.length) (h : n.getD i 0 = 47) : nameA n = false := by
  have : 47 ∈ n := by
    rw [List.getD_eq_getElem?_getD, List.getElem?_eq_getElem hi] at h
    simp at h
    rw [← h]
    exact List.getElem_mem _
  cases hn : nameA n with
  | false => rfl
  | true => exact absurd this (nameA_no hn)
theorem nameA_good {n : List UInt8} (h1 : n ≠ []) (h2 : n.length ≤ 255) (h3 : n ≠ [46]) (h4 : n ≠ [46, 46]) (h5 : ∀ j, j < n.length → n.getD j 0 ≠ 47) : nameA n = true := by
  have : 47 ∉ n := fun h => by
    obtain ⟨j, hj, e⟩ := List.mem_iff_getElem.1 h
    exact h5 j hj (by rw [List.getD_eq_getElem?_getD, List.getElem?_eq_getElem hj]; simpa using e)
  simp [nameA, h1, h2, h3, h4, this]

theorem Name_fn (n : List UInt8) (hb : n.length ≤ 140737488355328) : FnV Tryd.prog f_tree_Name [gN n] [.s (.bool (nameA n))] := by
  refine spec_fnv k_tree_Name (by simp) (by simp [gN_ok]) fun w => ?_
  simp (maxSteps := 2000000) only [c_tree_Name, gN, vc_skip, vc_ret, vc_exit, vc_seq, vc_block, vc_scope, scopeQ_n, scopeQ_r, scopeQ_e, vc_rg, vc_rgq, vc_rga, vc_ite, thenQ_n, thenQ_r, thenQ_e, blockQ_n, blockQ_r, blockQ_e, kKeep_eq, loopQ_r, loopQ_e, loopQ_n, finQ_r, finQ_n, segs_nil, segs_n, segs_g, ops_nil, ops_cons, qsegs_nil, qsegs_n, qsegs_g, qops_nil, qops_cons, ot_done, ot_op, ot_or, ot_held, oh_done, oh_op, oh_or, oh_first, oh_firstg, heldC_eq, heldF_eq, heldOk, heldK, ldH, heldM_self, heldM_one, heldM_two, heldM_three, List.contains_cons, List.contains_nil, Bool.or_false, Bool.or_true, Bool.true_or, Bool.false_or, vcqOp, vcOp, isRd, RO.isGh, skip_mk, skipL, ev, evL, gvL, scL, look, updL, put_mk, put_mk0, keep_mk, keepL, rowE, rowD, bndN, binV, binC, unV, GV.getT, GV.fld, GV.sz, GV.same, GV.setT, Value.oneCell', cond_true, cond_false, Nat.reduceEqDiff, Nat.reduceAdd, Nat.reduceMul, Nat.reduceSub, Nat.reduceBEq, Nat.reduceLeDiff, ↓reduceIte, reduceCtorEq, List.nil_append, List.cons_append, List.append_nil, Nat.zero_add, Nat.add_zero, Bool.and_true, Bool.true_and, Bool.not_true, Bool.not_false, BEq.rfl, decide_true, decide_false, true_and, and_true, initF, initP, List.map_cons, List.map_nil, Option.map_some, szAll, List.length_cons, List.length_nil, finW_r, finW_n, resL, resOne, Option.bind_some, true_imp_iff, false_imp_iff, Bool.true_eq_false, Bool.false_eq_true, Int.toNat_natCast, Int.reduceToNat, Int.reduceLE, Int.reduceLT, Int.reduceAdd, Int.reduceSub, Int.reduceEq, decide_eq_true_eq, decide_eq_false_iff_not, kill, SV.mentions, ne_eq, not_false_eq_true, not_true_eq_false, List.drop_zero, List.take_succ_cons, List.take_zero, dOk, ↓br_tt, ↓br_ff, ↓br_tf, ↓br_ft, br_t, br_f, Bool.bne_false, Bool.bne_true, GV.bldT, GV.bldC, gVec_get, gVec_set, gVec_arr, gVec_fits, gVec_sz, gVec_sameT, gVec_zero, gVec_isS, gVec2_get, gVec2_arr, gVec2_fits, gVec2_sz, gVec2_sameT, gVec2_zero, gVec2_set, same_int, getT_nil, setT_nil, getD_gi, List.length_map, fits_s, fits_c, fits_ar, arr_ar, get_nil, mkS_size, getD_gN, getD_gb, mkS_at, mkS_e0, mkS_e46, mkS_e4646, mkS_e47, mkS_ext, List.length_map]
  refine ⟨fun h0 => ⟨fun h1 => ⟨fun h2 => ⟨fun h3 => by rw [nameA_bad (.inr (.inr (.inr h3)))], fun h3 u => ?_⟩, fun h2 => by rw [nameA_bad (.inr (.inr (.inl h2)))]⟩, fun h1 => by rw [nameA_bad (.inr (.inl (by omega)))]⟩, fun h0 => by rw [nameA_bad (.inl h0)]⟩
  rw [mkS_list]
  refine vc_loop (ι := Nat) (fun i => ⟨[(21, .row 21 0 (n.length)), (22, .g (.s (.int .i64 (n.length)))), (23, .g (.s (.int .i64 (i))))], [(21, .ro 1 (gb 0) (n.map gb))], [u], PH.no⟩) (fun i => i ≤ n.length ∧ ∀ j, j < i → n.getD j 0 ≠ 47) (fun i => n.length - i) 0 (by simp) (ge_of ?_ ?_ rfl rfl rfl) ?_
  · simp [frIn, look]
  · simp [pvIn, look]
  rintro i ⟨hi, hj⟩
  generalize hQ : loopQ _ _ _ _ _ = Q
  simp (maxSteps := 2000000) only [c_tree_Name_L0, byte47, beq_iff_eq, beq_eq_false_iff_ne, vc_skip, vc_ret, vc_exit, vc_seq, vc_block, vc_scope, scopeQ_n, scopeQ_r, scopeQ_e, vc_rg, vc_rgq, vc_rga, vc_ite, thenQ_n, thenQ_r, thenQ_e, blockQ_n, blockQ_r, blockQ_e, kKeep_eq, loopQ_r, loopQ_e, loopQ_n, finQ_r, finQ_n, segs_nil, segs_n, segs_g, ops_nil, ops_cons, qsegs_nil, qsegs_n, qsegs_g, qops_nil, qops_cons, ot_done, ot_op, ot_or, ot_held, oh_done, oh_op, oh_or, oh_first, oh_firstg, heldC_eq, heldF_eq, heldOk, heldK, ldH, heldM_self, heldM_one, heldM_two, heldM_three, List.contains_cons, List.contains_nil, Bool.or_false, Bool.or_true, Bool.true_or, Bool.false_or, vcqOp, vcOp, isRd, RO.isGh, skip_mk, skipL, ev, evL, gvL, scL, look, updL, put_mk, put_mk0, keep_mk, keepL, rowE, rowD, bndN, binV, binC, unV, GV.getT, GV.fld, GV.sz, GV.same, GV.setT, Value.oneCell', cond_true, cond_false, Nat.reduceEqDiff, Nat.reduceAdd, Nat.reduceMul, Nat.reduceSub, Nat.reduceBEq, Nat.reduceLeDiff, ↓reduceIte, reduceCtorEq, List.nil_append, List.cons_append, List.append_nil, Nat.zero_add, Nat.add_zero, Bool.and_true, Bool.true_and, Bool.not_true, Bool.not_false, BEq.rfl, decide_true, decide_false, true_and, and_true, initF, initP, List.map_cons, List.map_nil, Option.map_some, szAll, List.length_cons, List.length_nil, finW_r, finW_n, resL, resOne, Option.bind_some, true_imp_iff, false_imp_iff, Bool.true_eq_false, Bool.false_eq_true, Int.toNat_natCast, Int.reduceToNat, Int.reduceLE, Int.reduceLT, Int.reduceAdd, Int.reduceSub, Int.reduceEq, decide_eq_true_eq, decide_eq_false_iff_not, kill, SV.mentions, ne_eq, not_false_eq_true, not_true_eq_false, List.drop_zero, List.take_succ_cons, List.take_zero, dOk, ↓br_tt, ↓br_ff, ↓br_tf, ↓br_ft, br_t, br_f, Bool.bne_false, Bool.bne_true, GV.bldT, GV.bldC, gVec_get, gVec_set, gVec_arr, gVec_fits, gVec_sz, gVec_sameT, gVec_zero, gVec_isS, gVec2_get, gVec2_arr, gVec2_fits, gVec2_sz, gVec2_sameT, gVec2_zero, gVec2_set, same_int, getT_nil, setT_nil, getD_gi, List.length_map, fits_s, fits_c, fits_ar, arr_ar, get_nil, mkS_size, getD_gN, getD_gb, mkS_at, mkS_e0, mkS_e46, mkS_e4646, mkS_e47, mkS_ext, List.length_map]
  refine ⟨fun hlt => ⟨by omega, fun h => ?_, fun h => ?_⟩, fun hlt => ?_⟩
  · subst hQ
    simp (maxSteps := 2000000) only [vc_skip, vc_ret, vc_exit, vc_seq, vc_block, vc_scope, scopeQ_n, scopeQ_r, scopeQ_e, vc_rg, vc_rgq, vc_rga, vc_ite, thenQ_n, thenQ_r, thenQ_e, blockQ_n, blockQ_r, blockQ_e, kKeep_eq, loopQ_r, loopQ_e, loopQ_n, finQ_r, finQ_n, segs_nil, segs_n, segs_g, ops_nil, ops_cons, qsegs_nil, qsegs_n, qsegs_g, qops_nil, qops_cons, ot_done, ot_op, ot_or, ot_held, oh_done, oh_op, oh_or, oh_first, oh_firstg, heldC_eq, heldF_eq, heldOk, heldK, ldH, heldM_self, heldM_one, heldM_two, heldM_three, List.contains_cons, List.contains_nil, Bool.or_false, Bool.or_true, Bool.true_or, Bool.false_or, vcqOp, vcOp, isRd, RO.isGh, skip_mk, skipL, ev, evL, gvL, scL, look, updL, put_mk, put_mk0, keep_mk, keepL, rowE, rowD, bndN, binV, binC, unV, GV.getT, GV.fld, GV.sz, GV.same, GV.setT, Value.oneCell', cond_true, cond_false, Nat.reduceEqDiff, Nat.reduceAdd, Nat.reduceMul, Nat.reduceSub, Nat.reduceBEq, Nat.reduceLeDiff, ↓reduceIte, reduceCtorEq, List.nil_append, List.cons_append, List.append_nil, Nat.zero_add, Nat.add_zero, Bool.and_true, Bool.true_and, Bool.not_true, Bool.not_false, BEq.rfl, decide_true, decide_false, true_and, and_true, initF, initP, List.map_cons, List.map_nil, Option.map_some, szAll, List.length_cons, List.length_nil, finW_r, finW_n, resL, resOne, Option.bind_some, true_imp_iff, false_imp_iff, Bool.true_eq_false, Bool.false_eq_true, Int.toNat_natCast, Int.reduceToNat, Int.reduceLE, Int.reduceLT, Int.reduceAdd, Int.reduceSub, Int.reduceEq, decide_eq_true_eq, decide_eq_false_iff_not, kill, SV.mentions, ne_eq, not_false_eq_true, not_true_eq_false, List.drop_zero, List.take_succ_cons, List.take_zero, dOk, ↓br_tt, ↓br_ff, ↓br_tf, ↓br_ft, br_t, br_f, Bool.bne_false, Bool.bne_true, GV.bldT, GV.bldC, gVec_get, gVec_set, gVec_arr, gVec_fits, gVec_sz, gVec_sameT, gVec_zero, gVec_isS, gVec2_get, gVec2_arr, gVec2_fits, gVec2_sz, gVec2_sameT, gVec2_zero, gVec2_set, same_int, getT_nil, setT_nil, getD_gi, List.length_map, fits_s, fits_c, fits_ar, arr_ar, get_nil, mkS_size, getD_gN, getD_gb, mkS_at, mkS_e0, mkS_e46, mkS_e4646, mkS_e47, mkS_ext, List.length_map]
    rw [nameA_slash (i := i) (by omega) h]
  · subst hQ; simp only [loopQ_n]; refine ⟨i + 1, ?_, ?_, ge_of ?_ ?_ rfl rfl rfl⟩
    · refine ⟨by omega, fun j hj2 => ?_⟩
      rcases Nat.lt_succ_iff_lt_or_eq.1 hj2 with h4 | rfl
      · exact hj j h4
      · exact h
    · omega
    · simp only [frIn, vc_skip, vc_ret, vc_exit, vc_seq, vc_block, vc_scope, scopeQ_n, scopeQ_r, scopeQ_e, vc_rg, vc_rgq, vc_rga, vc_ite, thenQ_n, thenQ_r, thenQ_e, blockQ_n, blockQ_r, blockQ_e, kKeep_eq, loopQ_r, loopQ_e, loopQ_n, finQ_r, finQ_n, segs_nil, segs_n, segs_g, ops_nil, ops_cons, qsegs_nil, qsegs_n, qsegs_g, qops_nil, qops_cons, ot_done, ot_op, ot_or, ot_held, oh_done, oh_op, oh_or, oh_first, oh_firstg, heldC_eq, heldF_eq, heldOk, heldK, ldH, heldM_self, heldM_one, heldM_two, heldM_three, List.contains_cons, List.contains_nil, Bool.or_false, Bool.or_true, Bool.true_or, Bool.false_or, vcqOp, vcOp, isRd, RO.isGh, skip_mk, skipL, ev, evL, gvL, scL, look, updL, put_mk, put_mk0, keep_mk, keepL, rowE, rowD, bndN, binV, binC, unV, GV.getT, GV.fld, GV.sz, GV.same, GV.setT, Value.oneCell', cond_true, cond_false, Nat.reduceEqDiff, Nat.reduceAdd, Nat.reduceMul, Nat.reduceSub, Nat.reduceBEq, Nat.reduceLeDiff, ↓reduceIte, reduceCtorEq, List.nil_append, List.cons_append, List.append_nil, Nat.zero_add, Nat.add_zero, Bool.and_true, Bool.true_and, Bool.not_true, Bool.not_false, BEq.rfl, decide_true, decide_false, true_and, and_true, initF, initP, List.map_cons, List.map_nil, Option.map_some, szAll, List.length_cons, List.length_nil, finW_r, finW_n, resL, resOne, Option.bind_some, true_imp_iff, false_imp_iff, Bool.true_eq_false, Bool.false_eq_true, Int.toNat_natCast, Int.reduceToNat, Int.reduceLE, Int.reduceLT, Int.reduceAdd, Int.reduceSub, Int.reduceEq, decide_eq_true_eq, decide_eq_false_iff_not, kill, SV.mentions, ne_eq, not_false_eq_true, not_true_eq_false, List.drop_zero, List.take_succ_cons, List.take_zero, dOk, ↓br_tt, ↓br_ff, ↓br_tf, ↓br_ft, br_t, br_f, Bool.bne_false, Bool.bne_true, GV.bldT, GV.bldC]
      rw [wrap_n (by omega)]
      try simp
    · simp [pvIn, look]
  · subst hQ
    simp (maxSteps := 2000000) only [vc_skip, vc_ret, vc_exit, vc_seq, vc_block, vc_scope, scopeQ_n, scopeQ_r, scopeQ_e, vc_rg, vc_rgq, vc_rga, vc_ite, thenQ_n, thenQ_r, thenQ_e, blockQ_n, blockQ_r, blockQ_e, kKeep_eq, loopQ_r, loopQ_e, loopQ_n, finQ_r, finQ_n, segs_nil, segs_n, segs_g, ops_nil, ops_cons, qsegs_nil, qsegs_n, qsegs_g, qops_nil, qops_cons, ot_done, ot_op, ot_or, ot_held, oh_done, oh_op, oh_or, oh_first, oh_firstg, heldC_eq, heldF_eq, heldOk, heldK, ldH, heldM_self, heldM_one, heldM_two, heldM_three, List.contains_cons, List.contains_nil, Bool.or_false, Bool.or_true, Bool.true_or, Bool.false_or, vcqOp, vcOp, isRd, RO.isGh, skip_mk, skipL, ev, evL, gvL, scL, look, updL, put_mk, put_mk0, keep_mk, keepL, rowE, rowD, bndN, binV, binC, unV, GV.getT, GV.fld, GV.sz, GV.same, GV.setT, Value.oneCell', cond_true, cond_false, Nat.reduceEqDiff, Nat.reduceAdd, Nat.reduceMul, Nat.reduceSub, Nat.reduceBEq, Nat.reduceLeDiff, ↓reduceIte, reduceCtorEq, List.nil_append, List.cons_append, List.append_nil, Nat.zero_add, Nat.add_zero, Bool.and_true, Bool.true_and, Bool.not_true, Bool.not_false, BEq.rfl, decide_true, decide_false, true_and, and_true, initF, initP, List.map_cons, List.map_nil, Option.map_some, szAll, List.length_cons, List.length_nil, finW_r, finW_n, resL, resOne, Option.bind_some, true_imp_iff, false_imp_iff, Bool.true_eq_false, Bool.false_eq_true, Int.toNat_natCast, Int.reduceToNat, Int.reduceLE, Int.reduceLT, Int.reduceAdd, Int.reduceSub, Int.reduceEq, decide_eq_true_eq, decide_eq_false_iff_not, kill, SV.mentions, ne_eq, not_false_eq_true, not_true_eq_false, List.drop_zero, List.take_succ_cons, List.take_zero, dOk, ↓br_tt, ↓br_ff, ↓br_tf, ↓br_ft, br_t, br_f, Bool.bne_false, Bool.bne_true, GV.bldT, GV.bldC, gVec_get, gVec_set, gVec_arr, gVec_fits, gVec_sz, gVec_sameT, gVec_zero, gVec_isS, gVec2_get, gVec2_arr, gVec2_fits, gVec2_sz, gVec2_sameT, gVec2_zero, gVec2_set, same_int, getT_nil, setT_nil, getD_gi, List.length_map, fits_s, fits_c, fits_ar, arr_ar, get_nil, mkS_size, getD_gN, getD_gb, mkS_at, mkS_e0, mkS_e46, mkS_e4646, mkS_e47, mkS_ext, List.length_map]
    rw [nameA_good h0 (by omega) h2 h3 fun j hjl => hj j (by omega)]

def preS (n : List UInt8) : Bool := n.take 1 == [47]
theorem HasPrefix_fn (n : List UInt8) : FnV Tryd.prog f_stringslite_HasPrefix [gN n, gN [47]] [.s (.bool (preS n))] := by
  refine spec_fnv k_stringslite_HasPrefix (by simp) (by simp [gN_ok]) fun w => ?_
  simp (maxSteps := 2000000) only [c_stringslite_HasPrefix, gN, vc_skip, vc_ret, vc_exit, vc_seq, vc_block, vc_scope, scopeQ_n, scopeQ_r, scopeQ_e, vc_rg, vc_rgq, vc_rga, vc_ite, thenQ_n, thenQ_r, thenQ_e, blockQ_n, blockQ_r, blockQ_e, kKeep_eq, loopQ_r, loopQ_e, loopQ_n, finQ_r, finQ_n, segs_nil, segs_n, segs_g, ops_nil, ops_cons, qsegs_nil, qsegs_n, qsegs_g, qops_nil, qops_cons, ot_done, ot_op, ot_or, ot_held, oh_done, oh_op, oh_or, oh_first, oh_firstg, heldC_eq, heldF_eq, heldOk, heldK, ldH, heldM_self, heldM_one, heldM_two, heldM_three, List.contains_cons, List.contains_nil, Bool.or_false, Bool.or_true, Bool.true_or, Bool.false_or, vcqOp, vcOp, isRd, RO.isGh, skip_mk, skipL, ev, evL, gvL, scL, look, updL, put_mk, put_mk0, keep_mk, keepL, rowE, rowD, bndN, binV, binC, unV, GV.getT, GV.fld, GV.sz, GV.same, GV.setT, Value.oneCell', cond_true, cond_false, Nat.reduceEqDiff, Nat.reduceAdd, Nat.reduceMul, Nat.reduceSub, Nat.reduceBEq, Nat.reduceLeDiff, ↓reduceIte, reduceCtorEq, List.nil_append, List.cons_append, List.append_nil, Nat.zero_add, Nat.add_zero, Bool.and_true, Bool.true_and, Bool.not_true, Bool.not_false, BEq.rfl, decide_true, decide_false, true_and, and_true, initF, initP, List.map_cons, List.map_nil, Option.map_some, szAll, List.length_cons, List.length_nil, finW_r, finW_n, resL, resOne, Option.bind_some, true_imp_iff, false_imp_iff, Bool.true_eq_false, Bool.false_eq_true, Int.toNat_natCast, Int.reduceToNat, Int.reduceLE, Int.reduceLT, Int.reduceAdd, Int.reduceSub, Int.reduceEq, decide_eq_true_eq, decide_eq_false_iff_not, kill, SV.mentions, ne_eq, not_false_eq_true, not_true_eq_false, List.drop_zero, List.take_succ_cons, List.take_zero, dOk, ↓br_tt, ↓br_ff, ↓br_tf, ↓br_ft, br_t, br_f, Bool.bne_false, Bool.bne_true, GV.bldT, GV.bldC, gVec_get, gVec_set, gVec_arr, gVec_fits, gVec_sz, gVec_sameT, gVec_zero, gVec_isS, gVec2_get, gVec2_arr, gVec2_fits, gVec2_sz, gVec2_sameT, gVec2_zero, gVec2_set, same_int, getT_nil, setT_nil, getD_gi, List.length_map, fits_s, fits_c, fits_ar, arr_ar, get_nil, mkS_size, getD_gN, getD_gb, mkS_at, mkS_e0, mkS_e46, mkS_e4646, mkS_e47, mkS_ext, List.length_map]
  refine ⟨fun h => ⟨by omega, ?_⟩, fun h => ?_⟩
  · simp only [preS, mkS_eq]
    congr 3
    by_cases h1 : n.take 1 = [47]
    · rw [h1]; rfl
    · rw [show (n.take 1 == [47]) = false by simpa using h1]; simpa using h1
  · have : n = [] := by
      cases n with
      | nil => rfl
      | cons a l => simp at h; omega
    subst this
    rfl

theorem CutPrefix_fn (n : List UInt8) : FnV Tryd.prog f_stringslite_CutPrefix [gN n, gN [47]] [gN (if preS n = true then n.drop 1 else n), .s (.bool (preS n))] := by
  refine spec_fnv k_stringslite_CutPrefix (by simp) (by simp [gN_ok]) fun w => ?_
  simp (maxSteps := 2000000) only [c_stringslite_CutPrefix, gN, vc_skip, vc_ret, vc_exit, vc_seq, vc_block, vc_scope, scopeQ_n, scopeQ_r, scopeQ_e, vc_rg, vc_rgq, vc_rga, vc_ite, thenQ_n, thenQ_r, thenQ_e, blockQ_n, blockQ_r, blockQ_e, kKeep_eq, loopQ_r, loopQ_e, loopQ_n, finQ_r, finQ_n, segs_nil, segs_n, segs_g, ops_nil, ops_cons, qsegs_nil, qsegs_n, qsegs_g, qops_nil, qops_cons, ot_done, ot_op, ot_or, ot_held, oh_done, oh_op, oh_or, oh_first, oh_firstg, heldC_eq, heldF_eq, heldOk, heldK, ldH, heldM_self, heldM_one, heldM_two, heldM_three, List.contains_cons, List.contains_nil, Bool.or_false, Bool.or_true, Bool.true_or, Bool.false_or, vcqOp, vcOp, isRd, RO.isGh, skip_mk, skipL, ev, evL, gvL, scL, look, updL, put_mk, put_mk0, keep_mk, keepL, rowE, rowD, bndN, binV, binC, unV, GV.getT, GV.fld, GV.sz, GV.same, GV.setT, Value.oneCell', cond_true, cond_false, Nat.reduceEqDiff, Nat.reduceAdd, Nat.reduceMul, Nat.reduceSub, Nat.reduceBEq, Nat.reduceLeDiff, ↓reduceIte, reduceCtorEq, List.nil_append, List.cons_append, List.append_nil, Nat.zero_add, Nat.add_zero, Bool.and_true, Bool.true_and, Bool.not_true, Bool.not_false, BEq.rfl, decide_true, decide_false, true_and, and_true, initF, initP, List.map_cons, List.map_nil, Option.map_some, szAll, List.length_cons, List.length_nil, finW_r, finW_n, resL, resOne, Option.bind_some, true_imp_iff, false_imp_iff, Bool.true_eq_false, Bool.false_eq_true, Int.toNat_natCast, Int.reduceToNat, Int.reduceLE, Int.reduceLT, Int.reduceAdd, Int.reduceSub, Int.reduceEq, decide_eq_true_eq, decide_eq_false_iff_not, kill, SV.mentions, ne_eq, not_false_eq_true, not_true_eq_false, List.drop_zero, List.take_succ_cons, List.take_zero, dOk, ↓br_tt, ↓br_ff, ↓br_tf, ↓br_ft, br_t, br_f, Bool.bne_false, Bool.bne_true, GV.bldT, GV.bldC, gVec_get, gVec_set, gVec_arr, gVec_fits, gVec_sz, gVec_sameT, gVec_zero, gVec_isS, gVec2_get, gVec2_arr, gVec2_fits, gVec2_sz, gVec2_sameT, gVec2_zero, gVec2_set, same_int, getT_nil, setT_nil, getD_gi, List.length_map, fits_s, fits_c, fits_ar, arr_ar, get_nil, mkS_size, getD_gN, getD_gb, mkS_at, mkS_e0, mkS_e46, mkS_e4646, mkS_e47, mkS_ext, List.length_map]
  refine call_fnv (HasPrefix_fn n) rfl rfl rfl fun _ => ?_
  simp (maxSteps := 2000000) only [retS, vc_skip, vc_ret, vc_exit, vc_seq, vc_block, vc_scope, scopeQ_n, scopeQ_r, scopeQ_e, vc_rg, vc_rgq, vc_rga, vc_ite, thenQ_n, thenQ_r, thenQ_e, blockQ_n, blockQ_r, blockQ_e, kKeep_eq, loopQ_r, loopQ_e, loopQ_n, finQ_r, finQ_n, segs_nil, segs_n, segs_g, ops_nil, ops_cons, qsegs_nil, qsegs_n, qsegs_g, qops_nil, qops_cons, ot_done, ot_op, ot_or, ot_held, oh_done, oh_op, oh_or, oh_first, oh_firstg, heldC_eq, heldF_eq, heldOk, heldK, ldH, heldM_self, heldM_one, heldM_two, heldM_three, List.contains_cons, List.contains_nil, Bool.or_false, Bool.or_true, Bool.true_or, Bool.false_or, vcqOp, vcOp, isRd, RO.isGh, skip_mk, skipL, ev, evL, gvL, scL, look, updL, put_mk, put_mk0, keep_mk, keepL, rowE, rowD, bndN, binV, binC, unV, GV.getT, GV.fld, GV.sz, GV.same, GV.setT, Value.oneCell', cond_true, cond_false, Nat.reduceEqDiff, Nat.reduceAdd, Nat.reduceMul, Nat.reduceSub, Nat.reduceBEq, Nat.reduceLeDiff, ↓reduceIte, reduceCtorEq, List.nil_append, List.cons_append, List.append_nil, Nat.zero_add, Nat.add_zero, Bool.and_true, Bool.true_and, Bool.not_true, Bool.not_false, BEq.rfl, decide_true, decide_false, true_and, and_true, initF, initP, List.map_cons, List.map_nil, Option.map_some, szAll, List.length_cons, List.length_nil, finW_r, finW_n, resL, resOne, Option.bind_some, true_imp_iff, false_imp_iff, Bool.true_eq_false, Bool.false_eq_true, Int.toNat_natCast, Int.reduceToNat, Int.reduceLE, Int.reduceLT, Int.reduceAdd, Int.reduceSub, Int.reduceEq, decide_eq_true_eq, decide_eq_false_iff_not, kill, SV.mentions, ne_eq, not_false_eq_true, not_true_eq_false, List.drop_zero, List.take_succ_cons, List.take_zero, dOk, ↓br_tt, ↓br_ff, ↓br_tf, ↓br_ft, br_t, br_f, Bool.bne_false, Bool.bne_true, GV.bldT, GV.bldC, gVec_get, gVec_set, gVec_arr, gVec_fits, gVec_sz, gVec_sameT, gVec_zero, gVec_isS, gVec2_get, gVec2_arr, gVec2_fits, gVec2_sz, gVec2_sameT, gVec2_zero, gVec2_set, same_int, getT_nil, setT_nil, getD_gi, List.length_map, fits_s, fits_c, fits_ar, arr_ar, get_nil, mkS_size, getD_gN, getD_gb, mkS_at, mkS_e0, mkS_e46, mkS_e4646, mkS_e47, mkS_ext, List.length_map]
  refine ⟨fun h => ?_, fun h => ?_⟩
  · have h' : preS n = false := by simpa using h
    rw [h']; rfl
  · have h' : preS n = true := by simpa using h
    have hl : 1 ≤ n.length := by
      cases n with
      | nil => cases h'
      | cons a l => simp
    refine ⟨by omega, ?_⟩
    rw [h', List.take_of_length_le (by simp)]
    rfl
theorem sCutPrefix_fn (n : List UInt8) : FnV Tryd.prog f_strings_CutPrefix [gN n, gN [47]] [gN (if preS n = true then n.drop 1 else n), .s (.bool (preS n))] := by
  refine spec_fnv k_strings_CutPrefix (by simp) (by simp [gN_ok]) fun w => ?_
  simp (maxSteps := 2000000) only [c_strings_CutPrefix, gN, vc_skip, vc_ret, vc_exit, vc_seq, vc_block, vc_scope, scopeQ_n, scopeQ_r, scopeQ_e, vc_rg, vc_rgq, vc_rga, vc_ite, thenQ_n, thenQ_r, thenQ_e, blockQ_n, blockQ_r, blockQ_e, kKeep_eq, loopQ_r, loopQ_e, loopQ_n, finQ_r, finQ_n, segs_nil, segs_n, segs_g, ops_nil, ops_cons, qsegs_nil, qsegs_n, qsegs_g, qops_nil, qops_cons, ot_done, ot_op, ot_or, ot_held, oh_done, oh_op, oh_or, oh_first, oh_firstg, heldC_eq, heldF_eq, heldOk, heldK, ldH, heldM_self, heldM_one, heldM_two, heldM_three, List.contains_cons, List.contains_nil, Bool.or_false, Bool.or_true, Bool.true_or, Bool.false_or, vcqOp, vcOp, isRd, RO.isGh, skip_mk, skipL, ev, evL, gvL, scL, look, updL, put_mk, put_mk0, keep_mk, keepL, rowE, rowD, bndN, binV, binC, unV, GV.getT, GV.fld, GV.sz, GV.same, GV.setT, Value.oneCell', cond_true, cond_false, Nat.reduceEqDiff, Nat.reduceAdd, Nat.reduceMul, Nat.reduceSub, Nat.reduceBEq, Nat.reduceLeDiff, ↓reduceIte, reduceCtorEq, List.nil_append, List.cons_append, List.append_nil, Nat.zero_add, Nat.add_zero, Bool.and_true, Bool.true_and, Bool.not_true, Bool.not_false, BEq.rfl, decide_true, decide_false, true_and, and_true, initF, initP, List.map_cons, List.map_nil, Option.map_some, szAll, List.length_cons, List.length_nil, finW_r, finW_n, resL, resOne, Option.bind_some, true_imp_iff, false_imp_iff, Bool.true_eq_false, Bool.false_eq_true, Int.toNat_natCast, Int.reduceToNat, Int.reduceLE, Int.reduceLT, Int.reduceAdd, Int.reduceSub, Int.reduceEq, decide_eq_true_eq, decide_eq_false_iff_not, kill, SV.mentions, ne_eq, not_false_eq_true, not_true_eq_false, List.drop_zero, List.take_succ_cons, List.take_zero, dOk, ↓br_tt, ↓br_ff, ↓br_tf, ↓br_ft, br_t, br_f, Bool.bne_false, Bool.bne_true, GV.bldT, GV.bldC, gVec_get, gVec_set, gVec_arr, gVec_fits, gVec_sz, gVec_sameT, gVec_zero, gVec_isS, gVec2_get, gVec2_arr, gVec2_fits, gVec2_sz, gVec2_sameT, gVec2_zero, gVec2_set, same_int, getT_nil, setT_nil, getD_gi, List.length_map, fits_s, fits_c, fits_ar, arr_ar, get_nil, mkS_size, getD_gN, getD_gb, mkS_at, mkS_e0, mkS_e46, mkS_e4646, mkS_e47, mkS_ext, List.length_map]
  refine call_fnv (CutPrefix_fn n) rfl rfl rfl fun _ => ?_
  simp (maxSteps := 2000000) only [retS, gN, List.getElem?_cons_zero, List.getElem?_cons_succ, vc_skip, vc_ret, vc_exit, vc_seq, vc_block, vc_scope, scopeQ_n, scopeQ_r, scopeQ_e, vc_rg, vc_rgq, vc_rga, vc_ite, thenQ_n, thenQ_r, thenQ_e, blockQ_n, blockQ_r, blockQ_e, kKeep_eq, loopQ_r, loopQ_e, loopQ_n, finQ_r, finQ_n, segs_nil, segs_n, segs_g, ops_nil, ops_cons, qsegs_nil, qsegs_n, qsegs_g, qops_nil, qops_cons, ot_done, ot_op, ot_or, ot_held, oh_done, oh_op, oh_or, oh_first, oh_firstg, heldC_eq, heldF_eq, heldOk, heldK, ldH, heldM_self, heldM_one, heldM_two, heldM_three, List.contains_cons, List.contains_nil, Bool.or_false, Bool.or_true, Bool.true_or, Bool.false_or, vcqOp, vcOp, isRd, RO.isGh, skip_mk, skipL, ev, evL, gvL, scL, look, updL, put_mk, put_mk0, keep_mk, keepL, rowE, rowD, bndN, binV, binC, unV, GV.getT, GV.fld, GV.sz, GV.same, GV.setT, Value.oneCell', cond_true, cond_false, Nat.reduceEqDiff, Nat.reduceAdd, Nat.reduceMul, Nat.reduceSub, Nat.reduceBEq, Nat.reduceLeDiff, ↓reduceIte, reduceCtorEq, List.nil_append, List.cons_append, List.append_nil, Nat.zero_add, Nat.add_zero, Bool.and_true, Bool.true_and, Bool.not_true, Bool.not_false, BEq.rfl, decide_true, decide_false, true_and, and_true, initF, initP, List.map_cons, List.map_nil, Option.map_some, szAll, List.length_cons, List.length_nil, finW_r, finW_n, resL, resOne, Option.bind_some, true_imp_iff, false_imp_iff, Bool.true_eq_false, Bool.false_eq_true, Int.toNat_natCast, Int.reduceToNat, Int.reduceLE, Int.reduceLT, Int.reduceAdd, Int.reduceSub, Int.reduceEq, decide_eq_true_eq, decide_eq_false_iff_not, kill, SV.mentions, ne_eq, not_false_eq_true, not_true_eq_false, List.drop_zero, List.take_succ_cons, List.take_zero, dOk, ↓br_tt, ↓br_ff, ↓br_tf, ↓br_ft, br_t, br_f, Bool.bne_false, Bool.bne_true, GV.bldT, GV.bldC, gVec_get, gVec_set, gVec_arr, gVec_fits, gVec_sz, gVec_sameT, gVec_zero, gVec_isS, gVec2_get, gVec2_arr, gVec2_fits, gVec2_sz, gVec2_sameT, gVec2_zero, gVec2_set, same_int, getT_nil, setT_nil, getD_gi, List.length_map, fits_s, fits_c, fits_ar, arr_ar, get_nil, mkS_size, getD_gN, getD_gb, mkS_at, mkS_e0, mkS_e46, mkS_e4646, mkS_e47, mkS_ext, List.length_map]

theorem wrongA_bad {ns : List (List UInt8)} {i : Nat} (hi : i < ns.length) (h : nameA (ns.getD i []) = false) : wrongA ns = 200 := by
  unfold wrongA
  rw [if_neg]
  intro ha
  have := List.all_eq_true.1 ha (ns.getD i []) (by rw [List.getD_eq_getElem?_getD, List.getElem?_eq_getElem hi]; exact List.getElem_mem _)
  rw [this] at h; cases h
theorem wrongA_all {ns : List (List UInt8)} (h : ∀ j, j < ns.length → nameA (ns.getD j []) = true) : wrongA ns = if ns.length > 64 then 3 else 0 := by
  unfold wrongA
  rw [if_pos]
  rw [List.all_eq_true]
  intro x hx
  obtain ⟨j, hj, e⟩ := List.mem_iff_getElem.1 hx
  have := h j hj
  rw [List.getD_eq_getElem?_getD, List.getElem?_eq_getElem hj] at this
  simpa [e] using this

theorem wrong_spec (w : World) (v : Value) (ns : List (List UInt8)) (hb : ns.length ≤ 140737488355328) (hn : ∀ n ∈ ns, n.length ≤ 140737488355328) (u : PH) (hu : u.le w) (h : SlR u v 1 (ns.map gN)) :
    Spec Tryd.prog f_path_wrong [v] PH.no w fun rs _ => rs = [.s (.int .i64 (wrongA ns))] := by
  refine spec_val k_path_wrong (Qf := fun rs => rs = [.s (.int .i64 (wrongA ns))]) [.ro v 1 (.s (.string ⟨#[]⟩)) (ns.map gN)] (by simp) (by simpa [AV.ok, u0_no] using h.up hu.sub) ?_
  simp (maxSteps := 2000000) only [c_path_wrong, vc_skip, vc_ret, vc_exit, vc_seq, vc_block, vc_scope, scopeQ_n, scopeQ_r, scopeQ_e, vc_rg, vc_rgq, vc_rga, vc_ite, thenQ_n, thenQ_r, thenQ_e, blockQ_n, blockQ_r, blockQ_e, kKeep_eq, loopQ_r, loopQ_e, loopQ_n, finQ_r, finQ_n, segs_nil, segs_n, segs_g, ops_nil, ops_cons, qsegs_nil, qsegs_n, qsegs_g, qops_nil, qops_cons, ot_done, ot_op, ot_or, ot_held, oh_done, oh_op, oh_or, oh_first, oh_firstg, heldC_eq, heldF_eq, heldOk, heldK, ldH, heldM_self, heldM_one, heldM_two, heldM_three, List.contains_cons, List.contains_nil, Bool.or_false, Bool.or_true, Bool.true_or, Bool.false_or, vcqOp, vcOp, isRd, RO.isGh, skip_mk, skipL, ev, evL, gvL, scL, look, updL, put_mk, put_mk0, keep_mk, keepL, rowE, rowD, bndN, binV, binC, unV, GV.getT, GV.fld, GV.sz, GV.same, GV.setT, Value.oneCell', cond_true, cond_false, Nat.reduceEqDiff, Nat.reduceAdd, Nat.reduceMul, Nat.reduceSub, Nat.reduceBEq, Nat.reduceLeDiff, ↓reduceIte, reduceCtorEq, List.nil_append, List.cons_append, List.append_nil, Nat.zero_add, Nat.add_zero, Bool.and_true, Bool.true_and, Bool.not_true, Bool.not_false, BEq.rfl, decide_true, decide_false, true_and, and_true, initF, initP, List.map_cons, List.map_nil, Option.map_some, szAll, List.length_cons, List.length_nil, finW_r, finW_n, resL, resOne, Option.bind_some, true_imp_iff, false_imp_iff, Bool.true_eq_false, Bool.false_eq_true, Int.toNat_natCast, Int.reduceToNat, Int.reduceLE, Int.reduceLT, Int.reduceAdd, Int.reduceSub, Int.reduceEq, decide_eq_true_eq, decide_eq_false_iff_not, kill, SV.mentions, ne_eq, not_false_eq_true, not_true_eq_false, List.drop_zero, List.take_succ_cons, List.take_zero, dOk, ↓br_tt, ↓br_ff, ↓br_tf, ↓br_ft, br_t, br_f, Bool.bne_false, Bool.bne_true, GV.bldT, GV.bldC, gVec_get, gVec_set, gVec_arr, gVec_fits, gVec_sz, gVec_sameT, gVec_zero, gVec_isS, gVec2_get, gVec2_arr, gVec2_fits, gVec2_sz, gVec2_sameT, gVec2_zero, gVec2_set, same_int, getT_nil, setT_nil, getD_gi, List.length_map, fits_s, fits_c, fits_ar, arr_ar, get_nil, mkS_size, getD_gN, getD_gb, mkS_at, mkS_e0, mkS_e46, mkS_e4646, mkS_e47, mkS_ext, List.length_map]
  refine vc_loop (ι := Nat) (fun i => ⟨[(0, .row 0 0 (ns.length)), (5, .row 0 0 (ns.length)), (6, .g (.s (.int .i64 (ns.length)))), (7, .g (.s (.int .i64 (i))))], [(0, .ro 1 (.s (.string ⟨#[]⟩)) (ns.map gN))], [], PH.no⟩) (fun i => i ≤ ns.length ∧ ∀ j, j < i → nameA (ns.getD j []) = true) (fun i => ns.length - i) 0 (by simp) (ge_of ?_ ?_ rfl rfl rfl) ?_
  · simp [frIn, look]
  · simp [pvIn, look]
  rintro i ⟨hi, hj⟩
  generalize hQ : loopQ _ _ _ _ _ = Q
  simp (maxSteps := 2000000) only [c_path_wrong_L0, vc_skip, vc_ret, vc_exit, vc_seq, vc_block, vc_scope, scopeQ_n, scopeQ_r, scopeQ_e, vc_rg, vc_rgq, vc_rga, vc_ite, thenQ_n, thenQ_r, thenQ_e, blockQ_n, blockQ_r, blockQ_e, kKeep_eq, loopQ_r, loopQ_e, loopQ_n, finQ_r, finQ_n, segs_nil, segs_n, segs_g, ops_nil, ops_cons, qsegs_nil, qsegs_n, qsegs_g, qops_nil, qops_cons, ot_done, ot_op, ot_or, ot_held, oh_done, oh_op, oh_or, oh_first, oh_firstg, heldC_eq, heldF_eq, heldOk, heldK, ldH, heldM_self, heldM_one, heldM_two, heldM_three, List.contains_cons, List.contains_nil, Bool.or_false, Bool.or_true, Bool.true_or, Bool.false_or, vcqOp, vcOp, isRd, RO.isGh, skip_mk, skipL, ev, evL, gvL, scL, look, updL, put_mk, put_mk0, keep_mk, keepL, rowE, rowD, bndN, binV, binC, unV, GV.getT, GV.fld, GV.sz, GV.same, GV.setT, Value.oneCell', cond_true, cond_false, Nat.reduceEqDiff, Nat.reduceAdd, Nat.reduceMul, Nat.reduceSub, Nat.reduceBEq, Nat.reduceLeDiff, ↓reduceIte, reduceCtorEq, List.nil_append, List.cons_append, List.append_nil, Nat.zero_add, Nat.add_zero, Bool.and_true, Bool.true_and, Bool.not_true, Bool.not_false, BEq.rfl, decide_true, decide_false, true_and, and_true, initF, initP, List.map_cons, List.map_nil, Option.map_some, szAll, List.length_cons, List.length_nil, finW_r, finW_n, resL, resOne, Option.bind_some, true_imp_iff, false_imp_iff, Bool.true_eq_false, Bool.false_eq_true, Int.toNat_natCast, Int.reduceToNat, Int.reduceLE, Int.reduceLT, Int.reduceAdd, Int.reduceSub, Int.reduceEq, decide_eq_true_eq, decide_eq_false_iff_not, kill, SV.mentions, ne_eq, not_false_eq_true, not_true_eq_false, List.drop_zero, List.take_succ_cons, List.take_zero, dOk, ↓br_tt, ↓br_ff, ↓br_tf, ↓br_ft, br_t, br_f, Bool.bne_false, Bool.bne_true, GV.bldT, GV.bldC, gVec_get, gVec_set, gVec_arr, gVec_fits, gVec_sz, gVec_sameT, gVec_zero, gVec_isS, gVec2_get, gVec2_arr, gVec2_fits, gVec2_sz, gVec2_sameT, gVec2_zero, gVec2_set, same_int, getT_nil, setT_nil, getD_gi, List.length_map, fits_s, fits_c, fits_ar, arr_ar, get_nil, mkS_size, getD_gN, getD_gb, mkS_at, mkS_e0, mkS_e46, mkS_e4646, mkS_e47, mkS_ext, List.length_map]
  refine ⟨fun hlt => ⟨by omega, ?_⟩, fun hlt => ?_⟩
  · have hmem : ns.getD i [] ∈ ns := by
      rw [List.getD_eq_getElem?_getD, List.getElem?_eq_getElem (by omega)]; exact List.getElem_mem _
    refine call_fnv (Name_fn (ns.getD i []) (hn _ hmem)) rfl rfl rfl fun _ => ?_
    simp (maxSteps := 2000000) only [retS, vc_skip, vc_ret, vc_exit, vc_seq, vc_block, vc_scope, scopeQ_n, scopeQ_r, scopeQ_e, vc_rg, vc_rgq, vc_rga, vc_ite, thenQ_n, thenQ_r, thenQ_e, blockQ_n, blockQ_r, blockQ_e, kKeep_eq, loopQ_r, loopQ_e, loopQ_n, finQ_r, finQ_n, segs_nil, segs_n, segs_g, ops_nil, ops_cons, qsegs_nil, qsegs_n, qsegs_g, qops_nil, qops_cons, ot_done, ot_op, ot_or, ot_held, oh_done, oh_op, oh_or, oh_first, oh_firstg, heldC_eq, heldF_eq, heldOk, heldK, ldH, heldM_self, heldM_one, heldM_two, heldM_three, List.contains_cons, List.contains_nil, Bool.or_false, Bool.or_true, Bool.true_or, Bool.false_or, vcqOp, vcOp, isRd, RO.isGh, skip_mk, skipL, ev, evL, gvL, scL, look, updL, put_mk, put_mk0, keep_mk, keepL, rowE, rowD, bndN, binV, binC, unV, GV.getT, GV.fld, GV.sz, GV.same, GV.setT, Value.oneCell', cond_true, cond_false, Nat.reduceEqDiff, Nat.reduceAdd, Nat.reduceMul, Nat.reduceSub, Nat.reduceBEq, Nat.reduceLeDiff, ↓reduceIte, reduceCtorEq, List.nil_append, List.cons_append, List.append_nil, Nat.zero_add, Nat.add_zero, Bool.and_true, Bool.true_and, Bool.not_true, Bool.not_false, BEq.rfl, decide_true, decide_false, true_and, and_true, initF, initP, List.map_cons, List.map_nil, Option.map_some, szAll, List.length_cons, List.length_nil, finW_r, finW_n, resL, resOne, Option.bind_some, true_imp_iff, false_imp_iff, Bool.true_eq_false, Bool.false_eq_true, Int.toNat_natCast, Int.reduceToNat, Int.reduceLE, Int.reduceLT, Int.reduceAdd, Int.reduceSub, Int.reduceEq, decide_eq_true_eq, decide_eq_false_iff_not, kill, SV.mentions, ne_eq, not_false_eq_true, not_true_eq_false, List.drop_zero, List.take_succ_cons, List.take_zero, dOk, ↓br_tt, ↓br_ff, ↓br_tf, ↓br_ft, br_t, br_f, Bool.bne_false, Bool.bne_true, GV.bldT, GV.bldC, gVec_get, gVec_set, gVec_arr, gVec_fits, gVec_sz, gVec_sameT, gVec_zero, gVec_isS, gVec2_get, gVec2_arr, gVec2_fits, gVec2_sz, gVec2_sameT, gVec2_zero, gVec2_set, same_int, getT_nil, setT_nil, getD_gi, List.length_map, fits_s, fits_c, fits_ar, arr_ar, get_nil, mkS_size, getD_gN, getD_gb, mkS_at, mkS_e0, mkS_e46, mkS_e4646, mkS_e47, mkS_ext, List.length_map]
    refine ⟨fun h => ?_, fun h => ?_⟩
    · subst hQ
      simp (maxSteps := 2000000) only [vc_skip, vc_ret, vc_exit, vc_seq, vc_block, vc_scope, scopeQ_n, scopeQ_r, scopeQ_e, vc_rg, vc_rgq, vc_rga, vc_ite, thenQ_n, thenQ_r, thenQ_e, blockQ_n, blockQ_r, blockQ_e, kKeep_eq, loopQ_r, loopQ_e, loopQ_n, finQ_r, finQ_n, segs_nil, segs_n, segs_g, ops_nil, ops_cons, qsegs_nil, qsegs_n, qsegs_g, qops_nil, qops_cons, ot_done, ot_op, ot_or, ot_held, oh_done, oh_op, oh_or, oh_first, oh_firstg, heldC_eq, heldF_eq, heldOk, heldK, ldH, heldM_self, heldM_one, heldM_two, heldM_three, List.contains_cons, List.contains_nil, Bool.or_false, Bool.or_true, Bool.true_or, Bool.false_or, vcqOp, vcOp, isRd, RO.isGh, skip_mk, skipL, ev, evL, gvL, scL, look, updL, put_mk, put_mk0, keep_mk, keepL, rowE, rowD, bndN, binV, binC, unV, GV.getT, GV.fld, GV.sz, GV.same, GV.setT, Value.oneCell', cond_true, cond_false, Nat.reduceEqDiff, Nat.reduceAdd, Nat.reduceMul, Nat.reduceSub, Nat.reduceBEq, Nat.reduceLeDiff, ↓reduceIte, reduceCtorEq, List.nil_append, List.cons_append, List.append_nil, Nat.zero_add, Nat.add_zero, Bool.and_true, Bool.true_and, Bool.not_true, Bool.not_false, BEq.rfl, decide_true, decide_false, true_and, and_true, initF, initP, List.map_cons, List.map_nil, Option.map_some, szAll, List.length_cons, List.length_nil, finW_r, finW_n, resL, resOne, Option.bind_some, true_imp_iff, false_imp_iff, Bool.true_eq_false, Bool.false_eq_true, Int.toNat_natCast, Int.reduceToNat, Int.reduceLE, Int.reduceLT, Int.reduceAdd, Int.reduceSub, Int.reduceEq, decide_eq_true_eq, decide_eq_false_iff_not, kill, SV.mentions, ne_eq, not_false_eq_true, not_true_eq_false, List.drop_zero, List.take_succ_cons, List.take_zero, dOk, ↓br_tt, ↓br_ff, ↓br_tf, ↓br_ft, br_t, br_f, Bool.bne_false, Bool.bne_true, GV.bldT, GV.bldC, gVec_get, gVec_set, gVec_arr, gVec_fits, gVec_sz, gVec_sameT, gVec_zero, gVec_isS, gVec2_get, gVec2_arr, gVec2_fits, gVec2_sz, gVec2_sameT, gVec2_zero, gVec2_set, same_int, getT_nil, setT_nil, getD_gi, List.length_map, fits_s, fits_c, fits_ar, arr_ar, get_nil, mkS_size, getD_gN, getD_gb, mkS_at, mkS_e0, mkS_e46, mkS_e4646, mkS_e47, mkS_ext, List.length_map]
      rw [wrongA_bad (i := i) (by omega) (by simpa using h)]
    · subst hQ; simp only [loopQ_n]; refine ⟨i + 1, ?_, ?_, ge_of ?_ ?_ rfl rfl rfl⟩
      · refine ⟨by omega, fun j hj2 => ?_⟩
        rcases Nat.lt_succ_iff_lt_or_eq.1 hj2 with h4 | rfl
        · exact hj j h4
        · simpa using h
      · omega
      · simp only [frIn, vc_skip, vc_ret, vc_exit, vc_seq, vc_block, vc_scope, scopeQ_n, scopeQ_r, scopeQ_e, vc_rg, vc_rgq, vc_rga, vc_ite, thenQ_n, thenQ_r, thenQ_e, blockQ_n, blockQ_r, blockQ_e, kKeep_eq, loopQ_r, loopQ_e, loopQ_n, finQ_r, finQ_n, segs_nil, segs_n, segs_g, ops_nil, ops_cons, qsegs_nil, qsegs_n, qsegs_g, qops_nil, qops_cons, ot_done, ot_op, ot_or, ot_held, oh_done, oh_op, oh_or, oh_first, oh_firstg, heldC_eq, heldF_eq, heldOk, heldK, ldH, heldM_self, heldM_one, heldM_two, heldM_three, List.contains_cons, List.contains_nil, Bool.or_false, Bool.or_true, Bool.true_or, Bool.false_or, vcqOp, vcOp, isRd, RO.isGh, skip_mk, skipL, ev, evL, gvL, scL, look, updL, put_mk, put_mk0, keep_mk, keepL, rowE, rowD, bndN, binV, binC, unV, GV.getT, GV.fld, GV.sz, GV.same, GV.setT, Value.oneCell', cond_true, cond_false, Nat.reduceEqDiff, Nat.reduceAdd, Nat.reduceMul, Nat.reduceSub, Nat.reduceBEq, Nat.reduceLeDiff, ↓reduceIte, reduceCtorEq, List.nil_append, List.cons_append, List.append_nil, Nat.zero_add, Nat.add_zero, Bool.and_true, Bool.true_and, Bool.not_true, Bool.not_false, BEq.rfl, decide_true, decide_false, true_and, and_true, initF, initP, List.map_cons, List.map_nil, Option.map_some, szAll, List.length_cons, List.length_nil, finW_r, finW_n, resL, resOne, Option.bind_some, true_imp_iff, false_imp_iff, Bool.true_eq_false, Bool.false_eq_true, Int.toNat_natCast, Int.reduceToNat, Int.reduceLE, Int.reduceLT, Int.reduceAdd, Int.reduceSub, Int.reduceEq, decide_eq_true_eq, decide_eq_false_iff_not, kill, SV.mentions, ne_eq, not_false_eq_true, not_true_eq_false, List.drop_zero, List.take_succ_cons, List.take_zero, dOk, ↓br_tt, ↓br_ff, ↓br_tf, ↓br_ft, br_t, br_f, Bool.bne_false, Bool.bne_true, GV.bldT, GV.bldC]
        rw [wrap_n (by omega)]
        try simp
      · simp [pvIn, look]
  · subst hQ
    simp (maxSteps := 2000000) only [vc_skip, vc_ret, vc_exit, vc_seq, vc_block, vc_scope, scopeQ_n, scopeQ_r, scopeQ_e, vc_rg, vc_rgq, vc_rga, vc_ite, thenQ_n, thenQ_r, thenQ_e, blockQ_n, blockQ_r, blockQ_e, kKeep_eq, loopQ_r, loopQ_e, loopQ_n, finQ_r, finQ_n, segs_nil, segs_n, segs_g, ops_nil, ops_cons, qsegs_nil, qsegs_n, qsegs_g, qops_nil, qops_cons, ot_done, ot_op, ot_or, ot_held, oh_done, oh_op, oh_or, oh_first, oh_firstg, heldC_eq, heldF_eq, heldOk, heldK, ldH, heldM_self, heldM_one, heldM_two, heldM_three, List.contains_cons, List.contains_nil, Bool.or_false, Bool.or_true, Bool.true_or, Bool.false_or, vcqOp, vcOp, isRd, RO.isGh, skip_mk, skipL, ev, evL, gvL, scL, look, updL, put_mk, put_mk0, keep_mk, keepL, rowE, rowD, bndN, binV, binC, unV, GV.getT, GV.fld, GV.sz, GV.same, GV.setT, Value.oneCell', cond_true, cond_false, Nat.reduceEqDiff, Nat.reduceAdd, Nat.reduceMul, Nat.reduceSub, Nat.reduceBEq, Nat.reduceLeDiff, ↓reduceIte, reduceCtorEq, List.nil_append, List.cons_append, List.append_nil, Nat.zero_add, Nat.add_zero, Bool.and_true, Bool.true_and, Bool.not_true, Bool.not_false, BEq.rfl, decide_true, decide_false, true_and, and_true, initF, initP, List.map_cons, List.map_nil, Option.map_some, szAll, List.length_cons, List.length_nil, finW_r, finW_n, resL, resOne, Option.bind_some, true_imp_iff, false_imp_iff, Bool.true_eq_false, Bool.false_eq_true, Int.toNat_natCast, Int.reduceToNat, Int.reduceLE, Int.reduceLT, Int.reduceAdd, Int.reduceSub, Int.reduceEq, decide_eq_true_eq, decide_eq_false_iff_not, kill, SV.mentions, ne_eq, not_false_eq_true, not_true_eq_false, List.drop_zero, List.take_succ_cons, List.take_zero, dOk, ↓br_tt, ↓br_ff, ↓br_tf, ↓br_ft, br_t, br_f, Bool.bne_false, Bool.bne_true, GV.bldT, GV.bldC, gVec_get, gVec_set, gVec_arr, gVec_fits, gVec_sz, gVec_sameT, gVec_zero, gVec_isS, gVec2_get, gVec2_arr, gVec2_fits, gVec2_sz, gVec2_sameT, gVec2_zero, gVec2_set, same_int, getT_nil, setT_nil, getD_gi, List.length_map, fits_s, fits_c, fits_ar, arr_ar, get_nil, mkS_size, getD_gN, getD_gb, mkS_at, mkS_e0, mkS_e46, mkS_e4646, mkS_e47, mkS_ext, List.length_map]
    rw [wrongA_all fun j hjl => hj j (by omega)]
    refine ⟨fun h => by rw [if_pos (by omega)], fun h => by rw [if_neg (by omega)]⟩
end Go.Proofs.YtnoeabmpdjpfaaaDoor.Vc

/- The code of some functions of the program, its types resolved: printed by a program of this claim. -/
set_option linter.unusedVariables false
set_option maxRecDepth 100000
namespace Go.Proofs.YtnoeabmpdjpfaaaDoor.Vc
open Go Go.Proofs

abbrev f_path_Split : Nat := 9
def c_path_Split : Cd :=
 (.seq (.rg [⟨none, [(some 2, .mv (.c (.slice none 0 0))), (some 3, .mv (.c (.int .i64 0)))]⟩] [0])
 (.seq (.seq (.rg [⟨none, [(some 8, .mv (.t 0)), (some 9, .bin .eql (.t 8) (.c (.string ⟨#[47]⟩)))]⟩] [0, 9])
 (.ite (.t 9)
 (.seq (.rg [⟨none, [(some 2, .mv (.c (.slice none 0 0))), (some 3, .mv (.c (.int .i64 0)))]⟩] [2, 3])
 .ret)
 .skip))
 (.seq (.rg [⟨none, [(some 11, .mv (.t 0)), (some 12, .call 17 [(.t 11), (.c (.string ⟨#[47]⟩))]), (some 10, .mv (.t 12)), (some 13, .ext (.t 10) 0), (some 14, .ext (.t 10) 1), (some 4, .mv (.t 13)), (some 5, .mv (.t 14))]⟩] [4, 5])
 (.seq (.seq (.rg [⟨none, [(some 15, .mv (.t 5)), (some 16, .un .not (.t 15))]⟩] [4, 16])
 (.ite (.t 16)
 (.seq (.rg [⟨none, [(some 2, .mv (.c (.slice none 0 0))), (some 3, .mv (.c (.int .i64 200)))]⟩] [2, 3])
 .ret)
 .skip))
 (.seq (.rg [⟨none, [(some 17, .mv (.t 4)), (some 18, .call 18 [(.t 17), (.c (.string ⟨#[47]⟩))]), (some 6, .mv (.t 18))]⟩] [6])
 (.seq (.seq (.rg [⟨none, [(some 19, .mv (.t 6)), (some 20, .call 19 [(.t 19)]), (some 7, .mv (.t 20))]⟩] [6, 7])
 (.seq (.rg [⟨none, [(some 21, .mv (.t 7)), (some 22, .bin .neq (.t 21) (.c (.int .i64 0)))]⟩] [6, 7, 22])
 (.ite (.t 22)
 (.seq (.rg [⟨none, [(some 23, .mv (.t 7)), (some 2, .mv (.c (.slice none 0 0))), (some 3, .mv (.t 23))]⟩] [2, 3])
 .ret)
 .skip)))
 (.seq (.rg [⟨none, [(some 24, .mv (.t 6)), (some 2, .mv (.t 24)), (some 3, .mv (.c (.int .i64 0)))]⟩] [2, 3])
 .ret)))))))
theorem k_path_Split : Ok Tryd.prog 9 c_path_Split 25 [] [.tmp 2, .tmp 3] := Ok.mk' Tryd.func9 (by kernel_rfl) (by kernel_rfl) (by kernel_rfl)

abbrev f_path_Join : Nat := 10
def c_path_Join : Cd :=
 (.seq (.rg [⟨none, [(some 2, .mv (.c (.string ⟨#[]⟩))), (some 3, .mv (.c (.int .i64 0)))]⟩] [0])
 (.seq (.seq (.rg [⟨none, [(some 5, .mv (.t 0)), (some 6, .call 19 [(.t 5)]), (some 4, .mv (.t 6))]⟩] [0, 4])
 (.seq (.rg [⟨none, [(some 7, .mv (.t 4)), (some 8, .bin .neq (.t 7) (.c (.int .i64 0)))]⟩] [0, 4, 8])
 (.ite (.t 8)
 (.seq (.rg [⟨none, [(some 9, .mv (.t 4)), (some 2, .mv (.c (.string ⟨#[]⟩))), (some 3, .mv (.t 9))]⟩] [2, 3])
 .ret)
 .skip)))
 (.seq (.rg [⟨none, [(some 10, .mv (.t 0)), (some 11, .call 15 [(.t 10), (.c (.string ⟨#[47]⟩))]), (some 12, .bin .add (.c (.string ⟨#[47]⟩)) (.t 11)), (some 2, .mv (.t 12)), (some 3, .mv (.c (.int .i64 0)))]⟩] [2, 3])
 .ret)))
theorem k_path_Join : Ok Tryd.prog 10 c_path_Join 13 [] [.tmp 2, .tmp 3] := Ok.mk' Tryd.func10 (by kernel_rfl) (by kernel_rfl) (by kernel_rfl)

end Go.Proofs.YtnoeabmpdjpfaaaDoor.Vc

/- Split and Join. -/
set_option linter.unusedVariables false
set_option linter.unusedSimpArgs false
set_option maxRecDepth 100000
namespace Go.Proofs.YtnoeabmpdjpfaaaDoor.Vc
open Go Go.Proofs

def SplitR (r : List (List UInt8) × Int) (rs : List GV) (m' : PH) : Prop := ∃ v, rs = [.s v, .s (.int .i64 r.2)] ∧ SlO m' v 9 1 (r.1.map gN)

theorem segs_len : ∀ l : List UInt8, (segs l).length ≤ l.length + 1
  | [] => by simp [segs]
  | c :: l => by
    have := segs_len l
    by_cases h : c = 47
    · subst h; simp only [segs, if_true, List.length_cons]; omega
    · obtain ⟨x, t, h1, h2⟩ := segs_cons h l
      rw [h2]; rw [h1] at this
      simp only [List.length_cons] at this ⊢
      omega
theorem segs_mem : ∀ {l x : List UInt8}, x ∈ segs l → x.length ≤ l.length
  | [], x, h => by simp [segs] at h; subst h; simp
  | c :: l, x, h => by
    by_cases hc : c = 47
    · subst hc
      simp only [segs, if_true, List.mem_cons] at h
      rcases h with rfl | h
      · simp
      · have := segs_mem h; simp; omega
    · obtain ⟨y, t, h1, h2⟩ := segs_cons hc l
      rw [h2] at h
      rcases List.mem_cons.1 h with rfl | h
      · have : y.length ≤ l.length := segs_mem (by rw [h1]; simp)
        simp; omega
      · have := segs_mem (l := l) (x := x) (by rw [h1]; simp [h])
        simp; omega

theorem splitA_no {p : List UInt8} (h1 : p ≠ [47]) (h : preS p = false) : splitA p = ([], 200) := by
  unfold splitA
  rw [if_neg h1]
  cases p with
  | nil => rfl
  | cons c r =>
    simp only
    rw [if_neg]
    intro e; subst e
    simp [preS] at h
theorem splitA_yes {p : List UInt8} (h1 : p ≠ [47]) (h : preS p = true) : splitA p = if wrongA (segs (p.drop 1)) = 0 then (segs (p.drop 1), 0) else ([], wrongA (segs (p.drop 1))) := by
  unfold splitA
  rw [if_neg h1]
  cases p with
  | nil => cases h
  | cons c r =>
    have : c = 47 := by simpa [preS] using h
    subst this
    simp

theorem nil_O (m : PH) : SlO PH.no (.slice none 0 0) 9 1 (([] : List (List UInt8)).map gN) := ⟨fun x hx => by simp at hx, .inl ⟨rfl, rfl⟩⟩

theorem pSplit_spec (w : World) (p : List UInt8) (hs : p.length < 4294967281) (u : PH) (hu : u.le w) (hG : GlobI u) : Spec Tryd.prog f_path_Split [.string (mkS p)] PH.no w (SplitR (splitA p)) := by
  refine spec_of k_path_Split [.g (gN p)] (by simp) (by simp [AV.ok, gN_ok]) ?_
  simp (maxSteps := 2000000) only [c_path_Split, gN, vc_skip, vc_ret, vc_exit, vc_seq, vc_block, vc_scope, scopeQ_n, scopeQ_r, scopeQ_e, vc_rg, vc_rgq, vc_rga, vc_ite, thenQ_n, thenQ_r, thenQ_e, blockQ_n, blockQ_r, blockQ_e, kKeep_eq, loopQ_r, loopQ_e, loopQ_n, finQ_r, finQ_n, segs_nil, segs_n, segs_g, ops_nil, ops_cons, qsegs_nil, qsegs_n, qsegs_g, qops_nil, qops_cons, ot_done, ot_op, ot_or, ot_held, oh_done, oh_op, oh_or, oh_first, oh_firstg, heldC_eq, heldF_eq, heldOk, heldK, ldH, heldM_self, heldM_one, heldM_two, heldM_three, List.contains_cons, List.contains_nil, Bool.or_false, Bool.or_true, Bool.true_or, Bool.false_or, vcqOp, vcOp, isRd, RO.isGh, skip_mk, skipL, ev, evL, gvL, scL, look, updL, put_mk, put_mk0, keep_mk, keepL, rowE, rowD, bndN, binV, binC, unV, GV.getT, GV.fld, GV.sz, GV.same, GV.setT, Value.oneCell', cond_true, cond_false, Nat.reduceEqDiff, Nat.reduceAdd, Nat.reduceMul, Nat.reduceSub, Nat.reduceBEq, Nat.reduceLeDiff, ↓reduceIte, reduceCtorEq, List.nil_append, List.cons_append, List.append_nil, Nat.zero_add, Nat.add_zero, Bool.and_true, Bool.true_and, Bool.not_true, Bool.not_false, BEq.rfl, decide_true, decide_false, true_and, and_true, initF, initP, List.map_cons, List.map_nil, Option.map_some, szAll, List.length_cons, List.length_nil, finW_r, finW_n, resL, resOne, Option.bind_some, true_imp_iff, false_imp_iff, Bool.true_eq_false, Bool.false_eq_true, Int.toNat_natCast, Int.reduceToNat, Int.reduceLE, Int.reduceLT, Int.reduceAdd, Int.reduceSub, Int.reduceEq, decide_eq_true_eq, decide_eq_false_iff_not, kill, SV.mentions, ne_eq, not_false_eq_true, not_true_eq_false, List.drop_zero, List.take_succ_cons, List.take_zero, dOk, ↓br_tt, ↓br_ff, ↓br_tf, ↓br_ft, br_t, br_f, Bool.bne_false, Bool.bne_true, GV.bldT, GV.bldC, gVec_get, gVec_set, gVec_arr, gVec_fits, gVec_sz, gVec_sameT, gVec_zero, gVec_isS, gVec2_get, gVec2_arr, gVec2_fits, gVec2_sz, gVec2_sameT, gVec2_zero, gVec2_set, same_int, getT_nil, setT_nil, getD_gi, List.length_map, fits_s, fits_c, fits_ar, arr_ar, get_nil, mkS_size, getD_gN, getD_gb, mkS_at, mkS_e0, mkS_e46, mkS_e4646, mkS_e47, mkS_ext, List.length_map]
  refine ⟨fun h1 => ?_, fun h1 => ?_⟩
  · subst h1
    exact fin_m PH.no rfl (fun _ _ h => h) ⟨_, rfl, nil_O PH.no⟩
  refine call_fnv (sCutPrefix_fn p) rfl rfl rfl fun _ => ?_
  simp (maxSteps := 2000000) only [retS, gN, List.getElem?_cons_zero, List.getElem?_cons_succ, vc_skip, vc_ret, vc_exit, vc_seq, vc_block, vc_scope, scopeQ_n, scopeQ_r, scopeQ_e, vc_rg, vc_rgq, vc_rga, vc_ite, thenQ_n, thenQ_r, thenQ_e, blockQ_n, blockQ_r, blockQ_e, kKeep_eq, loopQ_r, loopQ_e, loopQ_n, finQ_r, finQ_n, segs_nil, segs_n, segs_g, ops_nil, ops_cons, qsegs_nil, qsegs_n, qsegs_g, qops_nil, qops_cons, ot_done, ot_op, ot_or, ot_held, oh_done, oh_op, oh_or, oh_first, oh_firstg, heldC_eq, heldF_eq, heldOk, heldK, ldH, heldM_self, heldM_one, heldM_two, heldM_three, List.contains_cons, List.contains_nil, Bool.or_false, Bool.or_true, Bool.true_or, Bool.false_or, vcqOp, vcOp, isRd, RO.isGh, skip_mk, skipL, ev, evL, gvL, scL, look, updL, put_mk, put_mk0, keep_mk, keepL, rowE, rowD, bndN, binV, binC, unV, GV.getT, GV.fld, GV.sz, GV.same, GV.setT, Value.oneCell', cond_true, cond_false, Nat.reduceEqDiff, Nat.reduceAdd, Nat.reduceMul, Nat.reduceSub, Nat.reduceBEq, Nat.reduceLeDiff, ↓reduceIte, reduceCtorEq, List.nil_append, List.cons_append, List.append_nil, Nat.zero_add, Nat.add_zero, Bool.and_true, Bool.true_and, Bool.not_true, Bool.not_false, BEq.rfl, decide_true, decide_false, true_and, and_true, initF, initP, List.map_cons, List.map_nil, Option.map_some, szAll, List.length_cons, List.length_nil, finW_r, finW_n, resL, resOne, Option.bind_some, true_imp_iff, false_imp_iff, Bool.true_eq_false, Bool.false_eq_true, Int.toNat_natCast, Int.reduceToNat, Int.reduceLE, Int.reduceLT, Int.reduceAdd, Int.reduceSub, Int.reduceEq, decide_eq_true_eq, decide_eq_false_iff_not, kill, SV.mentions, ne_eq, not_false_eq_true, not_true_eq_false, List.drop_zero, List.take_succ_cons, List.take_zero, dOk, ↓br_tt, ↓br_ff, ↓br_tf, ↓br_ft, br_t, br_f, Bool.bne_false, Bool.bne_true, GV.bldT, GV.bldC, gVec_get, gVec_set, gVec_arr, gVec_fits, gVec_sz, gVec_sameT, gVec_zero, gVec_isS, gVec2_get, gVec2_arr, gVec2_fits, gVec2_sz, gVec2_sameT, gVec2_zero, gVec2_set, same_int, getT_nil, setT_nil, getD_gi, List.length_map, fits_s, fits_c, fits_ar, arr_ar, get_nil, mkS_size, getD_gN, getD_gb, mkS_at, mkS_e0, mkS_e46, mkS_e4646, mkS_e47, mkS_ext, List.length_map]
  refine ⟨fun h2 => ?_, fun h2 => ?_⟩
  · rw [splitA_no h1 (by simpa using h2)]
    exact fin_m PH.no rfl (fun _ _ h => by cases h) ⟨_, rfl, nil_O PH.no⟩
  have h2' : preS p = true := by simpa using h2
  rw [if_pos h2']
  rw [splitA_yes h1 h2']
  have hlen : (p.drop 1).length < 4294967281 := by simp; omega
  have hsl := segs_len (p.drop 1)
  refine call_own (dOk_spec rfl) rfl (Q := SplitQ (segs (p.drop 1))) (fun w' vs hv hw _ => ?_) fun rs m' hok hq => ?_
  · obtain ⟨vs, rfl, _, hv⟩ := argsV_g hv
    obtain ⟨vs, rfl, _, hv⟩ := argsV_g hv
    obtain rfl := argsV_nil hv
    have := Split_spec w' (mkS (p.drop 1)) (by rw [mkS_size]; omega) u (fun b o hb => hw b o (by rw [u0_no]; exact hu b o hb)) hG
    exact this
  obtain ⟨v, rfl, hv⟩ := hq
  simp (maxSteps := 2000000) only [retS, uni_no_r, vc_skip, vc_ret, vc_exit, vc_seq, vc_block, vc_scope, scopeQ_n, scopeQ_r, scopeQ_e, vc_rg, vc_rgq, vc_rga, vc_ite, thenQ_n, thenQ_r, thenQ_e, blockQ_n, blockQ_r, blockQ_e, kKeep_eq, loopQ_r, loopQ_e, loopQ_n, finQ_r, finQ_n, segs_nil, segs_n, segs_g, ops_nil, ops_cons, qsegs_nil, qsegs_n, qsegs_g, qops_nil, qops_cons, ot_done, ot_op, ot_or, ot_held, oh_done, oh_op, oh_or, oh_first, oh_firstg, heldC_eq, heldF_eq, heldOk, heldK, ldH, heldM_self, heldM_one, heldM_two, heldM_three, List.contains_cons, List.contains_nil, Bool.or_false, Bool.or_true, Bool.true_or, Bool.false_or, vcqOp, vcOp, isRd, RO.isGh, skip_mk, skipL, ev, evL, gvL, scL, look, updL, put_mk, put_mk0, keep_mk, keepL, rowE, rowD, bndN, binV, binC, unV, GV.getT, GV.fld, GV.sz, GV.same, GV.setT, Value.oneCell', cond_true, cond_false, Nat.reduceEqDiff, Nat.reduceAdd, Nat.reduceMul, Nat.reduceSub, Nat.reduceBEq, Nat.reduceLeDiff, ↓reduceIte, reduceCtorEq, List.nil_append, List.cons_append, List.append_nil, Nat.zero_add, Nat.add_zero, Bool.and_true, Bool.true_and, Bool.not_true, Bool.not_false, BEq.rfl, decide_true, decide_false, true_and, and_true, initF, initP, List.map_cons, List.map_nil, Option.map_some, szAll, List.length_cons, List.length_nil, finW_r, finW_n, resL, resOne, Option.bind_some, true_imp_iff, false_imp_iff, Bool.true_eq_false, Bool.false_eq_true, Int.toNat_natCast, Int.reduceToNat, Int.reduceLE, Int.reduceLT, Int.reduceAdd, Int.reduceSub, Int.reduceEq, decide_eq_true_eq, decide_eq_false_iff_not, kill, SV.mentions, ne_eq, not_false_eq_true, not_true_eq_false, List.drop_zero, List.take_succ_cons, List.take_zero, dOk, ↓br_tt, ↓br_ff, ↓br_tf, ↓br_ft, br_t, br_f, Bool.bne_false, Bool.bne_true, GV.bldT, GV.bldC, gVec_get, gVec_set, gVec_arr, gVec_fits, gVec_sz, gVec_sameT, gVec_zero, gVec_isS, gVec2_get, gVec2_arr, gVec2_fits, gVec2_sz, gVec2_sameT, gVec2_zero, gVec2_set, same_int, getT_nil, setT_nil, getD_gi, List.length_map, fits_s, fits_c, fits_ar, arr_ar, get_nil, mkS_size, getD_gN, getD_gb, mkS_at, mkS_e0, mkS_e46, mkS_e4646, mkS_e47, mkS_ext, List.length_map]
  refine call_ism _ [.s (.int .i64 (wrongA (segs (p.drop 1))))] rfl rfl (fun w' vs hv' hw hph hm => ?_) ?_
  · obtain ⟨vs, rfl, _, hv'⟩ := argsV_g hv'
    obtain rfl := argsV_nil hv'
    exact wrong_spec w' v (segs (p.drop 1)) (by omega) (fun n hn => by have := segs_mem hn; omega) m' hm hv.toR
  simp (maxSteps := 2000000) only [retS, beq_iff_eq, beq_eq_false_iff_ne, bne_iff_ne, bne_eq_false_iff_eq, vc_skip, vc_ret, vc_exit, vc_seq, vc_block, vc_scope, scopeQ_n, scopeQ_r, scopeQ_e, vc_rg, vc_rgq, vc_rga, vc_ite, thenQ_n, thenQ_r, thenQ_e, blockQ_n, blockQ_r, blockQ_e, kKeep_eq, loopQ_r, loopQ_e, loopQ_n, finQ_r, finQ_n, segs_nil, segs_n, segs_g, ops_nil, ops_cons, qsegs_nil, qsegs_n, qsegs_g, qops_nil, qops_cons, ot_done, ot_op, ot_or, ot_held, oh_done, oh_op, oh_or, oh_first, oh_firstg, heldC_eq, heldF_eq, heldOk, heldK, ldH, heldM_self, heldM_one, heldM_two, heldM_three, List.contains_cons, List.contains_nil, Bool.or_false, Bool.or_true, Bool.true_or, Bool.false_or, vcqOp, vcOp, isRd, RO.isGh, skip_mk, skipL, ev, evL, gvL, scL, look, updL, put_mk, put_mk0, keep_mk, keepL, rowE, rowD, bndN, binV, binC, unV, GV.getT, GV.fld, GV.sz, GV.same, GV.setT, Value.oneCell', cond_true, cond_false, Nat.reduceEqDiff, Nat.reduceAdd, Nat.reduceMul, Nat.reduceSub, Nat.reduceBEq, Nat.reduceLeDiff, ↓reduceIte, reduceCtorEq, List.nil_append, List.cons_append, List.append_nil, Nat.zero_add, Nat.add_zero, Bool.and_true, Bool.true_and, Bool.not_true, Bool.not_false, BEq.rfl, decide_true, decide_false, true_and, and_true, initF, initP, List.map_cons, List.map_nil, Option.map_some, szAll, List.length_cons, List.length_nil, finW_r, finW_n, resL, resOne, Option.bind_some, true_imp_iff, false_imp_iff, Bool.true_eq_false, Bool.false_eq_true, Int.toNat_natCast, Int.reduceToNat, Int.reduceLE, Int.reduceLT, Int.reduceAdd, Int.reduceSub, Int.reduceEq, decide_eq_true_eq, decide_eq_false_iff_not, kill, SV.mentions, ne_eq, not_false_eq_true, not_true_eq_false, List.drop_zero, List.take_succ_cons, List.take_zero, dOk, ↓br_tt, ↓br_ff, ↓br_tf, ↓br_ft, br_t, br_f, Bool.bne_false, Bool.bne_true, GV.bldT, GV.bldC, gVec_get, gVec_set, gVec_arr, gVec_fits, gVec_sz, gVec_sameT, gVec_zero, gVec_isS, gVec2_get, gVec2_arr, gVec2_fits, gVec2_sz, gVec2_sameT, gVec2_zero, gVec2_set, same_int, getT_nil, setT_nil, getD_gi, List.length_map, fits_s, fits_c, fits_ar, arr_ar, get_nil, mkS_size, getD_gN, getD_gb, mkS_at, mkS_e0, mkS_e46, mkS_e4646, mkS_e47, mkS_ext, List.length_map]
  refine ⟨fun h3 => ?_, fun h3 => ?_⟩
  · rw [if_neg h3]
    exact fin_m PH.no rfl (fun _ _ h => by cases h) ⟨_, rfl, nil_O PH.no⟩
  · rw [if_pos h3]
    exact fin_m m' rfl (fun _ _ h => h) ⟨_, rfl, hv⟩

/-! ### The document's -/
structure CutI (r : List UInt8) (j f : Nat) (ds : List (List UInt8)) : Prop where
  jl : j ≤ r.length + 1
  on : j ≤ r.length → f ≤ j ∧ segs r = ds ++ segs (r.drop f) ∧ ∀ q, f ≤ q → q < j → r.getD q 0 ≠ 47
  off : j = r.length + 1 → segs r = ds
  names : ∀ n ∈ ds, nameA n = true

theorem drop_cut {r : List UInt8} {f j : Nat} (h : f ≤ j) (hj : j < r.length) : r.drop f = (r.drop f).take (j - f) ++ r.getD j 0 :: r.drop (j + 1) := by
  have h1 : r.drop j = r.getD j 0 :: r.drop (j + 1) := by
    rw [List.drop_eq_getElem_cons hj, List.getD_eq_getElem?_getD, List.getElem?_eq_getElem hj]; rfl
  have h2 : (r.drop f).drop (j - f) = r.drop j := by rw [List.drop_drop]; congr 1; omega
  conv => lhs; rw [← List.take_append_drop (j - f) (r.drop f), h2, h1]
theorem no47 {r : List UInt8} {f j : Nat} (h : ∀ q, f ≤ q → q < j → r.getD q 0 ≠ 47) : 47 ∉ (r.drop f).take (j - f) := by
  intro hm
  obtain ⟨q, hq, e⟩ := List.mem_iff_getElem.1 hm
  simp only [List.length_take, List.length_drop] at hq
  rw [List.getElem_take, List.getElem_drop] at e
  refine h (f + q) (by omega) (by omega) ?_
  rw [List.getD_eq_getElem?_getD, List.getElem?_eq_getElem (by omega)]
  simpa using e

theorem CutI.start (r : List UInt8) : CutI r 0 0 [] := ⟨by omega, fun _ => ⟨by omega, by simp, fun q _ hq => by omega⟩, fun h => by omega, fun n hn => by simp at hn⟩
theorem CutI.goes {r : List UInt8} {j f : Nat} {ds : List (List UInt8)} (h : CutI r j f ds) (hj : j < r.length) (hc : r.getD j 0 ≠ 47) : CutI r (j + 1) f ds := by
  obtain ⟨h1, h2, h3⟩ := h.on (by omega)
  refine ⟨by omega, fun _ => ⟨by omega, h2, fun q q1 q2 => ?_⟩, fun e => by omega, h.names⟩
  rcases Nat.lt_succ_iff_lt_or_eq.1 q2 with h4 | rfl
  · exact h3 q q1 h4
  · exact hc
theorem CutI.piece {r : List UInt8} {j f : Nat} {ds : List (List UInt8)} (h : CutI r j f ds) (hj : j ≤ r.length) (hc : j = r.length ∨ r.getD j 0 = 47) : (r.drop f).take (j - f) ∈ segs r ∧ (nameA ((r.drop f).take (j - f)) = true → CutI r (j + 1) (j + 1) (ds ++ [(r.drop f).take (j - f)])) := by
  obtain ⟨h1, h2, h3⟩ := h.on hj
  have hno := no47 h3
  rcases Nat.lt_or_ge j r.length with hl | hl
  · have hcc : r.getD j 0 = 47 := hc.resolve_left (by omega)
    have hd := drop_cut h1 hl
    rw [hcc] at hd
    have hs : segs (r.drop f) = (r.drop f).take (j - f) :: segs (r.drop (j + 1)) := by
      conv => lhs; rw [hd, segs_app _ _ hno]
    rw [hs] at h2
    refine ⟨by rw [h2]; simp, fun hn => ⟨by omega, fun _ => ⟨by omega, by rw [h2]; simp, fun q q1 q2 => by omega⟩, fun e => by omega, fun n hx => ?_⟩⟩
    rcases List.mem_append.1 hx with hx | hx
    · exact h.names n hx
    · simp only [List.mem_singleton] at hx; subst hx; exact hn
  · have hjl : j = r.length := by omega
    have ht : (r.drop f).take (j - f) = r.drop f := List.take_of_length_le (by simp; omega)
    rw [ht] at hno ⊢
    rw [segs_one _ hno] at h2
    refine ⟨by rw [h2]; simp, fun hn => ⟨by omega, fun e => by omega, fun _ => h2, fun n hx => ?_⟩⟩
    rcases List.mem_append.1 hx with hx | hx
    · exact h.names n hx
    · simp only [List.mem_singleton] at hx; subst hx; exact hn

theorem preS_cons {p : List UInt8} (h0 : p ≠ []) : preS p = (p.getD 0 0 == 47) := by
  cases p with
  | nil => exact absurd rfl h0
  | cons c r =>
    simp only [preS, List.take_succ_cons, List.take_zero, List.getD_cons_zero]
    by_cases h : c = 47
    · subst h; rfl
    · rw [show (c == 47) = false by simpa using h]; simpa using h

end Go.Proofs.YtnoeabmpdjpfaaaDoor.Vc

/- Slices that are known as values; what is known told anew. -/
set_option linter.unusedVariables false
set_option linter.unusedSimpArgs false
namespace Go.Proofs.YtnoeabmpdjpfaaaDoor.Vc
open Go

theorem gh_ge {C : Ctx} {K : KT} {σ τ : SS} (h : Ge σ τ) (hK : K τ) : ghC C K σ := ⟨fun a w hR => ⟨τ, h.rel hR, hK⟩⟩
theorem gh_seq {C : Ctx} {K : KT} {σ : SS} (h : ghC C (fun τ => ghC C K τ) σ) : ghC C K σ := by
  constructor
  intro a w hR
  obtain ⟨τ, h1, h2⟩ := h.h a w hR
  exact h2.h a w h1
theorem gh_id {C : Ctx} {K : KT} {σ : SS} (h : K σ) : ghC C K σ := ⟨fun _ _ hR => ⟨σ, hR, h⟩⟩

theorem seen_of {C : Ctx} {ph : List PH} {m u : PH} {b o : Nat} {y : GV} {cs : Array Value} {e : TypeId} {fz : Nat × Nat} (hu : KN C.u0 (m :: ph) u) (hb : u b = some (.cells cs e fz)) (hy : y.ok) (hr : RowAt cs o y.flat) : Seen C ph m b o y := by
  refine ⟨hy, cs, e, fz, ?_, hr⟩
  rcases hu b _ hb with h | ⟨v, hv, h⟩
  · exact .inr (.inr h)
  · rcases List.mem_cons.1 hv with rfl | hv
    · exact .inl h
    · exact .inr (.inl ⟨v, hv, h⟩)

/-- A slice's place. -/
theorem SlR.shape {u : PH} {v : Value} {z : Nat} {xs : List GV} (h : SlR u v z xs) :
    (xs = [] ∧ ∃ a c, v = .slice a 0 c) ∨ (xs ≠ [] ∧ ∃ b o c, v = .slice (some ⟨b, o, none⟩) xs.length c ∧ xs.length ≤ c ∧ ∀ {C : Ctx} {ph : List PH} {m : PH}, KN C.u0 (m :: ph) u → ∀ i x, xs[i]? = some x → Seen C ph m b (o + i * z) x) := by
  obtain ⟨hels, ⟨rfl, rfl⟩ | ⟨⟨b, o, sp⟩, c, rfl, hc, hs⟩⟩ := h
  · exact .inl ⟨rfl, none, 0, rfl⟩
  · rcases xs.eq_nil_or_concat with rfl | hx
    · exact .inl ⟨rfl, some ⟨b, o, sp⟩, c, rfl⟩
    · have hx : xs ≠ [] := by obtain ⟨l, y, rfl⟩ := hx; simp
      have : 0 < xs.length := List.length_pos_iff.2 hx
      obtain ⟨cs, e, fz, h1, h2, h3⟩ := hs (by omega)
      simp only at h1 h2 h3
      subst h1
      refine .inr ⟨hx, b, o, c, rfl, hc, fun hu i x hix => seen_of hu h2 (hels x (List.mem_of_getElem? hix)).1 fun j v hj => ?_⟩
      rw [Nat.add_assoc]
      exact h3 _ _ (flats_at hels hix j v hj)
end Go.Proofs.YtnoeabmpdjpfaaaDoor.Vc

/- The code of some functions of the program, its types resolved: printed by a program of this claim. -/
set_option linter.unusedVariables false
set_option maxRecDepth 100000
namespace Go.Proofs.YtnoeabmpdjpfaaaDoor.Vc
open Go Go.Proofs

abbrev f_law20_begun : Nat := 4
def c_law20_begun : Cd :=
 (.seq (.rg [⟨none, [(some 0, .mv (.c (.bool false)))]⟩] [])
 (.seq (.rg [⟨none, [(some 6, .call 9 [(.c (.string ⟨#[47, 97, 47, 98]⟩))]), (some 5, .mv (.t 6)), (some 7, .ext (.t 5) 0), (some 8, .ext (.t 5) 1), (some 1, .mv (.t 7)), (some 2, .mv (.t 8))]⟩] [1, 2])
 (.seq (.rg [⟨none, [(some 10, .bldS 9 1 (.s (.string ⟨#[]⟩)) [(.c (.string ⟨#[97]⟩)), (.c (.string ⟨#[98]⟩))]), (some 11, .call 10 [(.t 10)]), (some 9, .mv (.t 11)), (some 12, .ext (.t 9) 0), (some 13, .ext (.t 9) 1), (some 3, .mv (.t 12)), (some 4, .mv (.t 13))]⟩] [1, 2, 3, 4])
 (.seq (.rg [⟨none, [(none, .gh), (some 14, .mv (.t 1)), (some 15, .len (.t 14)), (some 16, .bin .eql (.t 15) (.c (.int .i64 2))), (some 17, .mv (.t 16))]⟩, ⟨some (17, true), [(some 18, .mv (.t 1)), (some 19, .idxS (.t 18) (.c (.int .i64 0)) 1), (some 20, .ld (.t 19) 1 false), (some 21, .bin .eql (.t 20) (.c (.string ⟨#[97]⟩)))]⟩, ⟨none, [(some 22, .pick (.t 17) (.t 21) (.c (.bool false))), (some 23, .mv (.t 22))]⟩, ⟨some (23, true), [(some 24, .mv (.t 1)), (some 25, .idxS (.t 24) (.c (.int .i64 1)) 1), (some 26, .ld (.t 25) 1 false), (some 27, .bin .eql (.t 26) (.c (.string ⟨#[98]⟩)))]⟩, ⟨none, [(some 28, .pick (.t 23) (.t 27) (.c (.bool false))), (some 29, .mv (.t 28))]⟩, ⟨some (29, true), [(some 30, .mv (.t 2)), (some 31, .bin .eql (.t 30) (.c (.int .i64 0)))]⟩, ⟨none, [(some 32, .pick (.t 29) (.t 31) (.c (.bool false))), (some 33, .mv (.t 32))]⟩, ⟨some (33, true), [(some 34, .mv (.t 3)), (some 35, .bin .eql (.t 34) (.c (.string ⟨#[47, 97, 47, 98]⟩)))]⟩, ⟨none, [(some 36, .pick (.t 33) (.t 35) (.c (.bool false))), (some 37, .mv (.t 36))]⟩, ⟨some (37, true), [(some 38, .mv (.t 4)), (some 39, .bin .eql (.t 38) (.c (.int .i64 0)))]⟩, ⟨none, [(some 40, .pick (.t 37) (.t 39) (.c (.bool false))), (some 0, .mv (.t 40))]⟩] [0])
 .ret))))
theorem k_law20_begun : Ok Tryd.prog 4 c_law20_begun 41 [] [.tmp 0] := Ok.mk' Tryd.func4 (by kernel_rfl) (by kernel_rfl) (by kernel_rfl)

end Go.Proofs.YtnoeabmpdjpfaaaDoor.Vc

/- Join; two names' lists are the same; both packages do anything. -/
set_option linter.unusedVariables false
set_option linter.unusedSimpArgs false
set_option maxRecDepth 100000
namespace Go.Proofs.YtnoeabmpdjpfaaaDoor.Vc
open Go Go.Proofs

def sumL (ns : List (List UInt8)) : Nat := (ns.map List.length).sum + ns.length
theorem sumL_mem {ns : List (List UInt8)} {n : List UInt8} (h : n ∈ ns) : n.length ≤ sumL ns := by
  have : n.length ≤ (ns.map List.length).sum := by
    induction ns with
    | nil => cases h
    | cons x r ih =>
      rcases List.mem_cons.1 h with rfl | h
      · simp
      · have := ih h; simp; omega
  unfold sumL; omega
theorem sumL_len (ns : List (List UInt8)) : ns.length ≤ sumL ns := by unfold sumL; omega

theorem mkS_app (a b : List UInt8) : mkS a ++ mkS b = mkS (a ++ b) := by
  apply congrArg (fun l : List UInt8 => (⟨l.toArray⟩ : ByteArray)) ; rfl

theorem pJoin_spec (w : World) (v : Value) (ns : List (List UInt8)) (hb : sumL ns ≤ 137438953472) (u : PH) (hu : u.le w) (h : SlR u v 1 (ns.map gN)) :
    Spec Tryd.prog f_path_Join [v] PH.no w fun rs _ => rs = [gN (joinA ns).1, .s (.int .i64 (joinA ns).2)] := by
  refine spec_val k_path_Join (Qf := fun rs => rs = [gN (joinA ns).1, .s (.int .i64 (joinA ns).2)]) [.ro v 1 (.s (.string ⟨#[]⟩)) (ns.map gN)] (by simp) (by simpa [AV.ok, u0_no] using h.up hu.sub) ?_
  simp (maxSteps := 2000000) only [c_path_Join, vc_skip, vc_ret, vc_exit, vc_seq, vc_block, vc_scope, scopeQ_n, scopeQ_r, scopeQ_e, vc_rg, vc_rgq, vc_rga, vc_ite, thenQ_n, thenQ_r, thenQ_e, blockQ_n, blockQ_r, blockQ_e, kKeep_eq, loopQ_r, loopQ_e, loopQ_n, finQ_r, finQ_n, segs_nil, segs_n, segs_g, ops_nil, ops_cons, qsegs_nil, qsegs_n, qsegs_g, qops_nil, qops_cons, ot_done, ot_op, ot_or, ot_held, oh_done, oh_op, oh_or, oh_first, oh_firstg, heldC_eq, heldF_eq, heldOk, heldK, ldH, heldM_self, heldM_one, heldM_two, heldM_three, List.contains_cons, List.contains_nil, Bool.or_false, Bool.or_true, Bool.true_or, Bool.false_or, vcqOp, vcOp, isRd, RO.isGh, skip_mk, skipL, ev, evL, gvL, scL, look, updL, put_mk, put_mk0, keep_mk, keepL, rowE, rowD, bndN, binV, binC, unV, GV.getT, GV.fld, GV.sz, GV.same, GV.setT, Value.oneCell', cond_true, cond_false, Nat.reduceEqDiff, Nat.reduceAdd, Nat.reduceMul, Nat.reduceSub, Nat.reduceBEq, Nat.reduceLeDiff, ↓reduceIte, reduceCtorEq, List.nil_append, List.cons_append, List.append_nil, Nat.zero_add, Nat.add_zero, Bool.and_true, Bool.true_and, Bool.not_true, Bool.not_false, BEq.rfl, decide_true, decide_false, true_and, and_true, initF, initP, List.map_cons, List.map_nil, Option.map_some, szAll, List.length_cons, List.length_nil, finW_r, finW_n, resL, resOne, Option.bind_some, true_imp_iff, false_imp_iff, Bool.true_eq_false, Bool.false_eq_true, Int.toNat_natCast, Int.reduceToNat, Int.reduceLE, Int.reduceLT, Int.reduceAdd, Int.reduceSub, Int.reduceEq, decide_eq_true_eq, decide_eq_false_iff_not, kill, SV.mentions, ne_eq, not_false_eq_true, not_true_eq_false, List.drop_zero, List.take_succ_cons, List.take_zero, dOk, ↓br_tt, ↓br_ff, ↓br_tf, ↓br_ft, br_t, br_f, Bool.bne_false, Bool.bne_true, GV.bldT, GV.bldC, gVec_get, gVec_set, gVec_arr, gVec_fits, gVec_sz, gVec_sameT, gVec_zero, gVec_isS, gVec2_get, gVec2_arr, gVec2_fits, gVec2_sz, gVec2_sameT, gVec2_zero, gVec2_set, same_int, getT_nil, setT_nil, getD_gi, List.length_map, fits_s, fits_c, fits_ar, arr_ar, get_nil, mkS_size, getD_gN, getD_gb, mkS_at, mkS_e0, mkS_e46, mkS_e4646, mkS_e47, mkS_ext, List.length_map]
  refine call_is _ [.s (.int .i64 (wrongA ns))] rfl rfl (fun w' vs hv' hw => ?_) ?_
  · obtain ⟨v', vs, rfl, g1, hv'⟩ := argsV_row (z := 1) (xs := ns.map gN) rfl (by simp) hv'
    obtain rfl := argsV_nil hv'
    intro _
    have := sumL_len ns
    exact wrong_spec w' v' ns (by omega) (fun n hn => by have := sumL_mem hn; omega) w'.ph (fun _ _ h => h) g1
  simp (maxSteps := 2000000) only [retS, beq_iff_eq, beq_eq_false_iff_ne, bne_iff_ne, bne_eq_false_iff_eq, vc_skip, vc_ret, vc_exit, vc_seq, vc_block, vc_scope, scopeQ_n, scopeQ_r, scopeQ_e, vc_rg, vc_rgq, vc_rga, vc_ite, thenQ_n, thenQ_r, thenQ_e, blockQ_n, blockQ_r, blockQ_e, kKeep_eq, loopQ_r, loopQ_e, loopQ_n, finQ_r, finQ_n, segs_nil, segs_n, segs_g, ops_nil, ops_cons, qsegs_nil, qsegs_n, qsegs_g, qops_nil, qops_cons, ot_done, ot_op, ot_or, ot_held, oh_done, oh_op, oh_or, oh_first, oh_firstg, heldC_eq, heldF_eq, heldOk, heldK, ldH, heldM_self, heldM_one, heldM_two, heldM_three, List.contains_cons, List.contains_nil, Bool.or_false, Bool.or_true, Bool.true_or, Bool.false_or, vcqOp, vcOp, isRd, RO.isGh, skip_mk, skipL, ev, evL, gvL, scL, look, updL, put_mk, put_mk0, keep_mk, keepL, rowE, rowD, bndN, binV, binC, unV, GV.getT, GV.fld, GV.sz, GV.same, GV.setT, Value.oneCell', cond_true, cond_false, Nat.reduceEqDiff, Nat.reduceAdd, Nat.reduceMul, Nat.reduceSub, Nat.reduceBEq, Nat.reduceLeDiff, ↓reduceIte, reduceCtorEq, List.nil_append, List.cons_append, List.append_nil, Nat.zero_add, Nat.add_zero, Bool.and_true, Bool.true_and, Bool.not_true, Bool.not_false, BEq.rfl, decide_true, decide_false, true_and, and_true, initF, initP, List.map_cons, List.map_nil, Option.map_some, szAll, List.length_cons, List.length_nil, finW_r, finW_n, resL, resOne, Option.bind_some, true_imp_iff, false_imp_iff, Bool.true_eq_false, Bool.false_eq_true, Int.toNat_natCast, Int.reduceToNat, Int.reduceLE, Int.reduceLT, Int.reduceAdd, Int.reduceSub, Int.reduceEq, decide_eq_true_eq, decide_eq_false_iff_not, kill, SV.mentions, ne_eq, not_false_eq_true, not_true_eq_false, List.drop_zero, List.take_succ_cons, List.take_zero, dOk, ↓br_tt, ↓br_ff, ↓br_tf, ↓br_ft, br_t, br_f, Bool.bne_false, Bool.bne_true, GV.bldT, GV.bldC, gVec_get, gVec_set, gVec_arr, gVec_fits, gVec_sz, gVec_sameT, gVec_zero, gVec_isS, gVec2_get, gVec2_arr, gVec2_fits, gVec2_sz, gVec2_sameT, gVec2_zero, gVec2_set, same_int, getT_nil, setT_nil, getD_gi, List.length_map, fits_s, fits_c, fits_ar, arr_ar, get_nil, mkS_size, getD_gN, getD_gb, mkS_at, mkS_e0, mkS_e46, mkS_e4646, mkS_e47, mkS_ext, List.length_map]
  refine ⟨fun h1 => ?_, fun h1 => ?_⟩
  · rw [joinA, if_neg h1]; rfl
  refine call_is _ [gN (Lib.join ns [47])] rfl rfl (fun w' vs hv' hw => ?_) ?_
  · obtain ⟨v', vs, rfl, g1, hv'⟩ := argsV_row (z := 1) (xs := ns.map gN) rfl (by simp) hv'
    obtain ⟨vs, rfl, _, hv'⟩ := argsV_g hv'
    obtain rfl := argsV_nil hv'
    intro _
    exact Join_spec w' v' ns (by unfold sumL at hb; omega) w'.ph (fun _ _ h => h) g1
  simp (maxSteps := 2000000) only [retS, gN, vc_skip, vc_ret, vc_exit, vc_seq, vc_block, vc_scope, scopeQ_n, scopeQ_r, scopeQ_e, vc_rg, vc_rgq, vc_rga, vc_ite, thenQ_n, thenQ_r, thenQ_e, blockQ_n, blockQ_r, blockQ_e, kKeep_eq, loopQ_r, loopQ_e, loopQ_n, finQ_r, finQ_n, segs_nil, segs_n, segs_g, ops_nil, ops_cons, qsegs_nil, qsegs_n, qsegs_g, qops_nil, qops_cons, ot_done, ot_op, ot_or, ot_held, oh_done, oh_op, oh_or, oh_first, oh_firstg, heldC_eq, heldF_eq, heldOk, heldK, ldH, heldM_self, heldM_one, heldM_two, heldM_three, List.contains_cons, List.contains_nil, Bool.or_false, Bool.or_true, Bool.true_or, Bool.false_or, vcqOp, vcOp, isRd, RO.isGh, skip_mk, skipL, ev, evL, gvL, scL, look, updL, put_mk, put_mk0, keep_mk, keepL, rowE, rowD, bndN, binV, binC, unV, GV.getT, GV.fld, GV.sz, GV.same, GV.setT, Value.oneCell', cond_true, cond_false, Nat.reduceEqDiff, Nat.reduceAdd, Nat.reduceMul, Nat.reduceSub, Nat.reduceBEq, Nat.reduceLeDiff, ↓reduceIte, reduceCtorEq, List.nil_append, List.cons_append, List.append_nil, Nat.zero_add, Nat.add_zero, Bool.and_true, Bool.true_and, Bool.not_true, Bool.not_false, BEq.rfl, decide_true, decide_false, true_and, and_true, initF, initP, List.map_cons, List.map_nil, Option.map_some, szAll, List.length_cons, List.length_nil, finW_r, finW_n, resL, resOne, Option.bind_some, true_imp_iff, false_imp_iff, Bool.true_eq_false, Bool.false_eq_true, Int.toNat_natCast, Int.reduceToNat, Int.reduceLE, Int.reduceLT, Int.reduceAdd, Int.reduceSub, Int.reduceEq, decide_eq_true_eq, decide_eq_false_iff_not, kill, SV.mentions, ne_eq, not_false_eq_true, not_true_eq_false, List.drop_zero, List.take_succ_cons, List.take_zero, dOk, ↓br_tt, ↓br_ff, ↓br_tf, ↓br_ft, br_t, br_f, Bool.bne_false, Bool.bne_true, GV.bldT, GV.bldC, gVec_get, gVec_set, gVec_arr, gVec_fits, gVec_sz, gVec_sameT, gVec_zero, gVec_isS, gVec2_get, gVec2_arr, gVec2_fits, gVec2_sz, gVec2_sameT, gVec2_zero, gVec2_set, same_int, getT_nil, setT_nil, getD_gi, List.length_map, fits_s, fits_c, fits_ar, arr_ar, get_nil, mkS_size, getD_gN, getD_gb, mkS_at, mkS_e0, mkS_e46, mkS_e4646, mkS_e47, mkS_ext, List.length_map]
  have hjl := join_len ns
  rw [joinA, if_pos h1]
  refine ⟨?_, ?_⟩
  · have : ({ data := #[47] } : ByteArray).size = 1 := rfl
    unfold sumL at hb
    omega
  · rw [show ({ data := #[47] } : ByteArray) = mkS [47] from rfl, mkS_app]; rfl

theorem join_step (ns : List (List UInt8)) (n : List UInt8) : ((ns ++ [n]).map (fun x => (47 : UInt8) :: x)).flatten = (ns.map (fun x => (47 : UInt8) :: x)).flatten ++ 47 :: n := by simp
theorem join_flat : ∀ ns : List (List UInt8), ns ≠ [] → (ns.map (fun x => (47 : UInt8) :: x)).flatten = joinS ns
  | [], h => absurd rfl h
  | x :: r, _ => by
    unfold joinS
    rw [Lib.join_cons]
    have : ∀ r : List (List UInt8), (r.map (fun x => (47 : UInt8) :: x)).flatten = Lib.joinTail [47] r := by
      intro r
      induction r with
      | nil => rfl
      | cons y r ih => rw [List.map_cons, List.flatten_cons, ih]; rfl
    rw [List.map_cons, List.flatten_cons, this]; rfl
theorem flat_len (ns : List (List UInt8)) : ((ns.map (fun x => (47 : UInt8) :: x)).flatten).length = sumL ns := by
  induction ns with
  | nil => rfl
  | cons x r ih => simp only [List.map_cons, List.flatten_cons, List.length_append, ih, sumL, List.length_cons, List.sum_cons]; omega
theorem sumL_take (ns : List (List UInt8)) (i : Nat) : sumL (ns.take i) ≤ sumL ns := by
  have := flat_len (ns.take i)
  have h2 := flat_len ns
  rw [← flat_len, ← flat_len]
  have e : (ns.map (fun x => (47 : UInt8) :: x)).flatten = ((ns.take i).map (fun x => (47 : UInt8) :: x)).flatten ++ ((ns.drop i).map (fun x => (47 : UInt8) :: x)).flatten := by
    rw [← List.flatten_append, ← List.map_append, List.take_append_drop]
  rw [e, List.length_append]
  omega

theorem names_at {ns : List (List UInt8)} {i : Nat} (hi : i < ns.length) : (ns.map gN)[i]? = some (gN (ns.getD i [])) := by
  rw [List.getElem?_map, List.getD_eq_getElem?_getD, List.getElem?_eq_getElem hi]; rfl
/-- A list of names, known as a value. -/
theorem names_shape {u : PH} {v : Value} {ns : List (List UInt8)} (h : SlR u v 1 (ns.map gN)) :
    (ns = [] ∧ ∃ a c, v = .slice a 0 c) ∨ (ns ≠ [] ∧ ∃ b o c, v = .slice (some ⟨b, o, none⟩) ns.length c ∧ ns.length ≤ c ∧ ∀ {C : Ctx} {ph : List PH} {m : PH}, KN C.u0 (m :: ph) u → ∀ i, i < ns.length → Seen C ph m b (o + i * 1) (gN (ns.getD i []))) := by
  rcases h.shape with ⟨h1, h2⟩ | ⟨h1, b, o, c, h2, h3, h4⟩
  · exact .inl ⟨by simpa using h1, h2⟩
  · refine .inr ⟨by simpa using h1, b, o, c, by simpa using h2, by simpa using h3, fun hu i hi => h4 hu i _ (names_at hi)⟩

/-- What is given out stays where it is: its value and what is known of it. -/
theorem begun_spec (w : World) (u : PH) (hu : u.le w) (hG : GlobI u) : Spec Tryd.prog f_law20_begun [] PH.no w fun rs _ => rs = [.s (.bool true)] := by
  refine spec_of k_law20_begun [] (by simp) (by simp [AV.ok]) ?_
  simp (maxSteps := 2000000) only [c_law20_begun, vc_skip, vc_ret, vc_exit, vc_seq, vc_block, vc_scope, scopeQ_n, scopeQ_r, scopeQ_e, vc_rg, vc_rgq, vc_rga, vc_ite, thenQ_n, thenQ_r, thenQ_e, blockQ_n, blockQ_r, blockQ_e, kKeep_eq, loopQ_r, loopQ_e, loopQ_n, finQ_r, finQ_n, segs_nil, segs_n, segs_g, ops_nil, ops_cons, qsegs_nil, qsegs_n, qsegs_g, qops_nil, qops_cons, ot_done, ot_op, ot_or, ot_held, oh_done, oh_op, oh_or, oh_first, oh_firstg, heldC_eq, heldF_eq, heldOk, heldK, ldH, heldM_self, heldM_one, heldM_two, heldM_three, List.contains_cons, List.contains_nil, Bool.or_false, Bool.or_true, Bool.true_or, Bool.false_or, vcqOp, vcOp, isRd, RO.isGh, skip_mk, skipL, ev, evL, gvL, scL, look, updL, put_mk, put_mk0, keep_mk, keepL, rowE, rowD, bndN, binV, binC, unV, GV.getT, GV.fld, GV.sz, GV.same, GV.setT, Value.oneCell', cond_true, cond_false, Nat.reduceEqDiff, Nat.reduceAdd, Nat.reduceMul, Nat.reduceSub, Nat.reduceBEq, Nat.reduceLeDiff, ↓reduceIte, reduceCtorEq, List.nil_append, List.cons_append, List.append_nil, Nat.zero_add, Nat.add_zero, Bool.and_true, Bool.true_and, Bool.not_true, Bool.not_false, BEq.rfl, decide_true, decide_false, true_and, and_true, initF, initP, List.map_cons, List.map_nil, Option.map_some, szAll, List.length_cons, List.length_nil, finW_r, finW_n, resL, resOne, Option.bind_some, true_imp_iff, false_imp_iff, Bool.true_eq_false, Bool.false_eq_true, Int.toNat_natCast, Int.reduceToNat, Int.reduceLE, Int.reduceLT, Int.reduceAdd, Int.reduceSub, Int.reduceEq, decide_eq_true_eq, decide_eq_false_iff_not, kill, SV.mentions, ne_eq, not_false_eq_true, not_true_eq_false, List.drop_zero, List.take_succ_cons, List.take_zero, dOk, ↓br_tt, ↓br_ff, ↓br_tf, ↓br_ft, br_t, br_f, Bool.bne_false, Bool.bne_true, GV.bldT, GV.bldC, gVec_get, gVec_set, gVec_arr, gVec_fits, gVec_sz, gVec_sameT, gVec_zero, gVec_isS, gVec2_get, gVec2_arr, gVec2_fits, gVec2_sz, gVec2_sameT, gVec2_zero, gVec2_set, same_int, getT_nil, setT_nil, getD_gi, List.length_map, fits_s, fits_c, fits_ar, arr_ar, get_nil, mkS_size, getD_gN, getD_gb, mkS_at, mkS_e0, mkS_e46, mkS_e4646, mkS_e47, mkS_ext, List.length_map]
  refine call_frz (dOk_spec rfl) rfl (Q := SplitR (splitA [47, 97, 47, 98])) (fun w' vs hv hw _ => ?_) fun rs m' hok hq => ?_
  · obtain ⟨vs, rfl, _, hv⟩ := argsV_g hv
    obtain rfl := argsV_nil hv
    exact pSplit_spec w' [47, 97, 47, 98] (by decide) u (fun b o hb => hw b o (by rw [u0_no]; exact hu b o hb)) hG
  have e1 : splitA [47, 97, 47, 98] = ([[97], [98]], 0) := by decide
  rw [e1] at hq
  obtain ⟨v, rfl, hv⟩ := hq
  simp (maxSteps := 2000000) only [retS, vc_skip, vc_ret, vc_exit, vc_seq, vc_block, vc_scope, scopeQ_n, scopeQ_r, scopeQ_e, vc_rg, vc_rgq, vc_rga, vc_ite, thenQ_n, thenQ_r, thenQ_e, blockQ_n, blockQ_r, blockQ_e, kKeep_eq, loopQ_r, loopQ_e, loopQ_n, finQ_r, finQ_n, segs_nil, segs_n, segs_g, ops_nil, ops_cons, qsegs_nil, qsegs_n, qsegs_g, qops_nil, qops_cons, ot_done, ot_op, ot_or, ot_held, oh_done, oh_op, oh_or, oh_first, oh_firstg, heldC_eq, heldF_eq, heldOk, heldK, ldH, heldM_self, heldM_one, heldM_two, heldM_three, List.contains_cons, List.contains_nil, Bool.or_false, Bool.or_true, Bool.true_or, Bool.false_or, vcqOp, vcOp, isRd, RO.isGh, skip_mk, skipL, ev, evL, gvL, scL, look, updL, put_mk, put_mk0, keep_mk, keepL, rowE, rowD, bndN, binV, binC, unV, GV.getT, GV.fld, GV.sz, GV.same, GV.setT, Value.oneCell', cond_true, cond_false, Nat.reduceEqDiff, Nat.reduceAdd, Nat.reduceMul, Nat.reduceSub, Nat.reduceBEq, Nat.reduceLeDiff, ↓reduceIte, reduceCtorEq, List.nil_append, List.cons_append, List.append_nil, Nat.zero_add, Nat.add_zero, Bool.and_true, Bool.true_and, Bool.not_true, Bool.not_false, BEq.rfl, decide_true, decide_false, true_and, and_true, initF, initP, List.map_cons, List.map_nil, Option.map_some, szAll, List.length_cons, List.length_nil, finW_r, finW_n, resL, resOne, Option.bind_some, true_imp_iff, false_imp_iff, Bool.true_eq_false, Bool.false_eq_true, Int.toNat_natCast, Int.reduceToNat, Int.reduceLE, Int.reduceLT, Int.reduceAdd, Int.reduceSub, Int.reduceEq, decide_eq_true_eq, decide_eq_false_iff_not, kill, SV.mentions, ne_eq, not_false_eq_true, not_true_eq_false, List.drop_zero, List.take_succ_cons, List.take_zero, dOk, ↓br_tt, ↓br_ff, ↓br_tf, ↓br_ft, br_t, br_f, Bool.bne_false, Bool.bne_true, GV.bldT, GV.bldC, gVec_get, gVec_set, gVec_arr, gVec_fits, gVec_sz, gVec_sameT, gVec_zero, gVec_isS, gVec2_get, gVec2_arr, gVec2_fits, gVec2_sz, gVec2_sameT, gVec2_zero, gVec2_set, same_int, getT_nil, setT_nil, getD_gi, List.length_map, fits_s, fits_c, fits_ar, arr_ar, get_nil, mkS_size, getD_gN, getD_gb, mkS_at, mkS_e0, mkS_e46, mkS_e4646, mkS_e47, mkS_ext, List.length_map]
  refine call_is _ [gN [47, 97, 47, 98], .s (.int .i64 0)] rfl rfl (fun w' vs hv' hw => ?_) ?_
  · obtain ⟨v', vs, rfl, g1, hv'⟩ := argsV_row (z := 1) (xs := [[97], [98]].map gN) rfl (by simp) hv'
    obtain rfl := argsV_nil hv'
    intro _
    have := pJoin_spec w' v' [[97], [98]] (by decide) w'.ph (fun _ _ h => h) g1
    rwa [show joinA [[97], [98]] = ([47, 97, 47, 98], 0) by decide] at this
  simp (maxSteps := 2000000) only [retS, gN, List.getElem?_cons_zero, List.getElem?_cons_succ, Int.cast_ofNat_Int, vc_skip, vc_ret, vc_exit, vc_seq, vc_block, vc_scope, scopeQ_n, scopeQ_r, scopeQ_e, vc_rg, vc_rgq, vc_rga, vc_ite, thenQ_n, thenQ_r, thenQ_e, blockQ_n, blockQ_r, blockQ_e, kKeep_eq, loopQ_r, loopQ_e, loopQ_n, finQ_r, finQ_n, segs_nil, segs_n, segs_g, ops_nil, ops_cons, qsegs_nil, qsegs_n, qsegs_g, qops_nil, qops_cons, ot_done, ot_op, ot_or, ot_held, oh_done, oh_op, oh_or, oh_first, oh_firstg, heldC_eq, heldF_eq, heldOk, heldK, ldH, heldM_self, heldM_one, heldM_two, heldM_three, List.contains_cons, List.contains_nil, Bool.or_false, Bool.or_true, Bool.true_or, Bool.false_or, vcqOp, vcOp, isRd, RO.isGh, skip_mk, skipL, ev, evL, gvL, scL, look, updL, put_mk, put_mk0, keep_mk, keepL, rowE, rowD, bndN, binV, binC, unV, GV.getT, GV.fld, GV.sz, GV.same, GV.setT, Value.oneCell', cond_true, cond_false, Nat.reduceEqDiff, Nat.reduceAdd, Nat.reduceMul, Nat.reduceSub, Nat.reduceBEq, Nat.reduceLeDiff, ↓reduceIte, reduceCtorEq, List.nil_append, List.cons_append, List.append_nil, Nat.zero_add, Nat.add_zero, Bool.and_true, Bool.true_and, Bool.not_true, Bool.not_false, BEq.rfl, decide_true, decide_false, true_and, and_true, initF, initP, List.map_cons, List.map_nil, Option.map_some, szAll, List.length_cons, List.length_nil, finW_r, finW_n, resL, resOne, Option.bind_some, true_imp_iff, false_imp_iff, Bool.true_eq_false, Bool.false_eq_true, Int.toNat_natCast, Int.reduceToNat, Int.reduceLE, Int.reduceLT, Int.reduceAdd, Int.reduceSub, Int.reduceEq, decide_eq_true_eq, decide_eq_false_iff_not, kill, SV.mentions, ne_eq, not_false_eq_true, not_true_eq_false, List.drop_zero, List.take_succ_cons, List.take_zero, dOk, ↓br_tt, ↓br_ff, ↓br_tf, ↓br_ft, br_t, br_f, Bool.bne_false, Bool.bne_true, GV.bldT, GV.bldC, gVec_get, gVec_set, gVec_arr, gVec_fits, gVec_sz, gVec_sameT, gVec_zero, gVec_isS, gVec2_get, gVec2_arr, gVec2_fits, gVec2_sz, gVec2_sameT, gVec2_zero, gVec2_set, same_int, getT_nil, setT_nil, getD_gi, List.length_map, fits_s, fits_c, fits_ar, arr_ar, get_nil, mkS_size, getD_gN, getD_gb, mkS_at, mkS_e0, mkS_e46, mkS_e4646, mkS_e47, mkS_ext, List.length_map]
  refine gh_rk 1 1 (.s (.string ⟨#[]⟩)) rfl rfl hv.toR (KN.mem (by simp)) ?_
  simp (maxSteps := 2000000) only [gN, List.getD_cons_zero, List.getD_cons_succ, Int.cast_ofNat_Int, List.length_map, mkS_eq, vc_skip, vc_ret, vc_exit, vc_seq, vc_block, vc_scope, scopeQ_n, scopeQ_r, scopeQ_e, vc_rg, vc_rgq, vc_rga, vc_ite, thenQ_n, thenQ_r, thenQ_e, blockQ_n, blockQ_r, blockQ_e, kKeep_eq, loopQ_r, loopQ_e, loopQ_n, finQ_r, finQ_n, segs_nil, segs_n, segs_g, ops_nil, ops_cons, qsegs_nil, qsegs_n, qsegs_g, qops_nil, qops_cons, ot_done, ot_op, ot_or, ot_held, oh_done, oh_op, oh_or, oh_first, oh_firstg, heldC_eq, heldF_eq, heldOk, heldK, ldH, heldM_self, heldM_one, heldM_two, heldM_three, List.contains_cons, List.contains_nil, Bool.or_false, Bool.or_true, Bool.true_or, Bool.false_or, vcqOp, vcOp, isRd, RO.isGh, skip_mk, skipL, ev, evL, gvL, scL, look, updL, put_mk, put_mk0, keep_mk, keepL, rowE, rowD, bndN, binV, binC, unV, GV.getT, GV.fld, GV.sz, GV.same, GV.setT, Value.oneCell', cond_true, cond_false, Nat.reduceEqDiff, Nat.reduceAdd, Nat.reduceMul, Nat.reduceSub, Nat.reduceBEq, Nat.reduceLeDiff, ↓reduceIte, reduceCtorEq, List.nil_append, List.cons_append, List.append_nil, Nat.zero_add, Nat.add_zero, Bool.and_true, Bool.true_and, Bool.not_true, Bool.not_false, BEq.rfl, decide_true, decide_false, true_and, and_true, initF, initP, List.map_cons, List.map_nil, Option.map_some, szAll, List.length_cons, List.length_nil, finW_r, finW_n, resL, resOne, Option.bind_some, true_imp_iff, false_imp_iff, Bool.true_eq_false, Bool.false_eq_true, Int.toNat_natCast, Int.reduceToNat, Int.reduceLE, Int.reduceLT, Int.reduceAdd, Int.reduceSub, Int.reduceEq, decide_eq_true_eq, decide_eq_false_iff_not, kill, SV.mentions, ne_eq, not_false_eq_true, not_true_eq_false, List.drop_zero, List.take_succ_cons, List.take_zero, dOk, ↓br_tt, ↓br_ff, ↓br_tf, ↓br_ft, br_t, br_f, Bool.bne_false, Bool.bne_true, GV.bldT, GV.bldC, gVec_get, gVec_set, gVec_arr, gVec_fits, gVec_sz, gVec_sameT, gVec_zero, gVec_isS, gVec2_get, gVec2_arr, gVec2_fits, gVec2_sz, gVec2_sameT, gVec2_zero, gVec2_set, same_int, getT_nil, setT_nil, getD_gi, List.length_map, fits_s, fits_c, fits_ar, arr_ar, get_nil, mkS_size, getD_gN, getD_gb, mkS_at, mkS_e0, mkS_e46, mkS_e4646, mkS_e47, mkS_ext, List.length_map]
  exact ⟨fun _ => ⟨fun _ => ⟨fun _ => fin_m PH.no rfl (fun _ _ h => h) rfl, fun h => absurd rfl h⟩, fun h => absurd rfl h⟩, fun h => absurd rfl h⟩

theorem splitA_len (p : List UInt8) : (splitA p).1.length ≤ 64 := by
  by_cases h : (splitA p).2 = 0
  · exact (wrongA_ok (join_split (p := p) (ns := (splitA p).1) (by rw [← h])).1).2
  · rw [splitA_err h]; simp
theorem splitA_names {p n : List UInt8} (hn : n ∈ (splitA p).1) : nameA n = true := by
  by_cases h : (splitA p).2 = 0
  · exact (wrongA_ok (join_split (p := p) (ns := (splitA p).1) (by rw [← h])).1).1 n hn
  · rw [splitA_err h] at hn; cases hn
theorem sumL_le : ∀ {ns : List (List UInt8)}, (∀ n ∈ ns, nameA n = true) → sumL ns ≤ 256 * ns.length
  | [], _ => by simp [sumL]
  | x :: r, h => by
    have h1 := nameA_len (h x (by simp))
    have h2 := sumL_le (ns := r) fun n hn => h n (by simp [hn])
    simp only [sumL, List.map_cons, List.sum_cons, List.length_cons] at h2 ⊢
    omega

end Go.Proofs.YtnoeabmpdjpfaaaDoor.Vc

/- The code of some functions of the program, its types resolved: printed by a program of this claim. -/
set_option linter.unusedVariables false
set_option maxRecDepth 100000
namespace Go.Proofs.YtnoeabmpdjpfaaaDoor.Vc
open Go Go.Proofs

abbrev f_tree_Tree_none : Nat := 20
def c_tree_Tree_none : Cd :=
 (.seq (.rg [⟨none, [(some 2, .mv (.c (.bool false)))]⟩] [0])
 (.seq (.rg [⟨none, [(some 3, .mv (.t 0)), (some 4, .eqA false 23 (.t 3) (.c (.pointer none))), (some 5, .mv (.t 4))]⟩, ⟨some (5, false), [(some 6, .mv (.t 0)), (some 7, .nilc (.t 6)), (some 8, .fldA (.t 7) 0 0), (some 9, .ld (.t 8) 1 false), (some 10, .eqA false 24 (.t 9) (.c (.map none)))]⟩, ⟨none, [(some 11, .pick (.t 5) (.c (.bool true)) (.t 10)), (some 2, .mv (.t 11))]⟩] [2])
 .ret))
theorem k_tree_Tree_none : Ok Tryd.prog 20 c_tree_Tree_none 12 [] [.tmp 2] := Ok.mk' Tryd.func20 (by kernel_rfl) (by kernel_rfl) (by kernel_rfl)

abbrev f_tree_Tree_Len : Nat := 11
def c_tree_Tree_Len : Cd :=
 (.seq (.rg [⟨none, [(some 2, .mv (.c (.int .i64 0)))]⟩] [0])
 (.seq (.seq (.rg [⟨none, [(some 3, .mv (.t 0)), (some 4, .call 20 [(.t 3)])]⟩] [0, 4])
 (.ite (.t 4)
 (.seq (.rg [⟨none, [(some 2, .mv (.c (.int .i64 0)))]⟩] [2])
 .ret)
 .skip))
 (.seq (.rg [⟨none, [(some 5, .mv (.t 0)), (some 6, .nilc (.t 5)), (some 7, .fldA (.t 6) 0 0), (some 8, .ld (.t 7) 1 false), (some 9, .mln (some .i64) (.t 8)), (some 2, .mv (.t 9))]⟩] [2])
 .ret)))
theorem k_tree_Tree_Len : Ok Tryd.prog 11 c_tree_Tree_Len 10 [] [.tmp 2] := Ok.mk' Tryd.func11 (by kernel_rfl) (by kernel_rfl) (by kernel_rfl)

abbrev f_path_Resolve : Nat := 5
def c_path_Resolve_L0 : Cd :=
 (.seq (.rg [⟨none, [(some 27, .bin .lss (.t 26) (.t 25))]⟩] [0, 8, 24, 25, 26, 27])
 (.seq (.ite (.t 27)
 .skip
 (.exit 0))
 (.seq (.block 1 (.seq (.rg [⟨none, [(some 28, .idxS (.t 24) (.t 26) 1), (some 29, .ld (.t 28) 1 false), (some 10, .mv (.t 29))]⟩] [0, 8, 10, 24, 25, 26])
 (.seq (.rg [⟨none, [(some 31, .mv (.t 0)), (some 32, .mv (.t 8)), (some 33, .mv (.t 10)), (some 34, .call 12 [(.t 31), (.t 32), (.t 33)]), (some 30, .mv (.t 34)), (some 35, .ext (.t 30) 0), (some 36, .ext (.t 30) 1), (some 11, .mv (.t 35)), (some 12, .mv (.t 36))]⟩] [0, 11, 12, 24, 25, 26])
 (.seq (.seq (.rg [⟨none, [(some 37, .mv (.t 12)), (some 38, .un .not (.t 37))]⟩] [0, 11, 24, 25, 26, 38])
 (.ite (.t 38)
 (.seq (.rg [⟨none, [(some 4, .mv (.c (.int .i64 0))), (some 5, .mv (.c (.int .i64 4)))]⟩] [4, 5])
 .ret)
 .skip))
 (.rg [⟨none, [(some 39, .mv (.t 11)), (some 8, .mv (.t 39))]⟩] [0, 8, 24, 25, 26])))))
 (.rg [⟨none, [(some 40, .bin .add (.t 26) (.c (.int .i64 1))), (some 26, .mv (.t 40))]⟩] [0, 8, 24, 25, 26]))))
def c_path_Resolve : Cd :=
 (.seq (.rg [⟨none, [(some 4, .mv (.c (.int .i64 0))), (some 5, .mv (.c (.int .i64 0)))]⟩] [0, 1])
 (.seq (.seq (.rg [⟨none, [(some 13, .mv (.t 0)), (some 14, .call 11 [(.t 13)]), (some 15, .bin .eql (.t 14) (.c (.int .i64 0)))]⟩] [0, 1, 15])
 (.ite (.t 15)
 (.seq (.rg [⟨none, [(some 4, .mv (.c (.int .i64 0))), (some 5, .mv (.c (.int .i64 2)))]⟩] [4, 5])
 .ret)
 .skip))
 (.seq (.rg [⟨none, [(some 17, .mv (.t 1)), (some 18, .call 9 [(.t 17)]), (some 16, .mv (.t 18)), (some 19, .ext (.t 16) 0), (some 20, .ext (.t 16) 1), (some 6, .mv (.t 19)), (some 7, .mv (.t 20))]⟩] [0, 6, 7])
 (.seq (.seq (.rg [⟨none, [(some 21, .mv (.t 7)), (some 22, .bin .neq (.t 21) (.c (.int .i64 0)))]⟩] [0, 6, 7, 22])
 (.ite (.t 22)
 (.seq (.rg [⟨none, [(some 23, .mv (.t 7)), (some 4, .mv (.c (.int .i64 0))), (some 5, .mv (.t 23))]⟩] [4, 5])
 .ret)
 .skip))
 (.seq (.rg [⟨none, [(some 8, .mv (.c (.int .i64 1)))]⟩] [0, 6, 8])
 (.seq (.seq (.rg [⟨none, [(some 24, .mv (.t 6)), (some 25, .len (.t 24)), (some 26, .mv (.c (.int .i64 0)))]⟩] [0, 8, 24, 25, 26])
 (.block 0 (.loop c_path_Resolve_L0)))
 (.seq (.rg [⟨none, [(some 41, .mv (.t 8)), (some 4, .mv (.t 41)), (some 5, .mv (.c (.int .i64 0)))]⟩] [4, 5])
 .ret)))))))
theorem k_path_Resolve : Ok Tryd.prog 5 c_path_Resolve 42 [] [.tmp 4, .tmp 5] := Ok.mk' Tryd.func5 (by kernel_rfl) (by kernel_rfl) (by kernel_rfl)

abbrev f_path_Of : Nat := 6
def c_path_Of_L0 : Cd :=
 (.seq (.seq (.rg [⟨none, [(some 25, .mv (.t 1)), (some 26, .bin .neq (.t 25) (.c (.int .i64 1)))]⟩] [0, 1, 8, 26])
 (.ite (.t 26)
 .skip
 (.exit 0)))
 (.block 1 (.seq (.rg [⟨none, [(some 28, .mv (.t 0)), (some 29, .mv (.t 1)), (some 30, .call 13 [(.t 28), (.t 29)]), (some 27, .mv (.t 30)), (some 31, .ext (.t 27) 0), (some 32, .ext (.t 27) 1), (some 9, .new 50 (.c (.s (.int .i64 0)) (.c (.s (.int .i64 0)) (.c (.s (.string ⟨#[]⟩)) (.c (.s (.slice none 0 0)) .u))))), (none, .st (.t 9) (.t 31) 4), (some 10, .mv (.t 32))]⟩] [0, 8, 9])
 (.seq (.rg [⟨none, [(some 33, .fldA (.t 9) 2 2), (some 34, .ld (.t 33) 1 false), (some 35, .bldS 9 1 (.s (.string ⟨#[]⟩)) [(.t 34)]), (some 36, .mv (.t 8)), (some 37, .app 9 1 16 (.s (.string ⟨#[]⟩)) (.t 35) (.t 36)), (some 8, .mv (.t 37))]⟩] [0, 8, 9])
 (.seq (.rg [⟨none, [(some 38, .fldA (.t 9) 1 1), (some 39, .ld (.t 38) 1 false), (some 1, .mv (.t 39))]⟩] [0, 1, 8])
 (.seq (.rg [⟨none, [(some 40, .mv (.t 8)), (some 41, .len (.t 40)), (some 42, .bin .gtr (.t 41) (.c (.int .i64 64)))]⟩] [0, 1, 8, 42])
 (.ite (.t 42)
 (.seq (.rg [⟨none, [(some 4, .mv (.c (.string ⟨#[]⟩))), (some 5, .mv (.c (.int .i64 3)))]⟩] [4, 5])
 .ret)
 .skip)))))))
def c_path_Of : Cd :=
 (.seq (.rg [⟨none, [(some 4, .mv (.c (.string ⟨#[]⟩))), (some 5, .mv (.c (.int .i64 0)))]⟩] [0, 1])
 (.seq (.seq (.rg [⟨none, [(some 11, .mv (.t 0)), (some 12, .call 11 [(.t 11)]), (some 13, .bin .eql (.t 12) (.c (.int .i64 0)))]⟩] [0, 1, 13])
 (.ite (.t 13)
 (.seq (.rg [⟨none, [(some 4, .mv (.c (.string ⟨#[]⟩))), (some 5, .mv (.c (.int .i64 2)))]⟩] [4, 5])
 .ret)
 .skip))
 (.seq (.seq (.rg [⟨none, [(some 15, .mv (.t 0)), (some 16, .mv (.t 1)), (some 17, .call 13 [(.t 15), (.t 16)]), (some 14, .mv (.t 17)), (some 18, .ext (.t 14) 0), (some 19, .ext (.t 14) 1), (some 6, .new 50 (.c (.s (.int .i64 0)) (.c (.s (.int .i64 0)) (.c (.s (.string ⟨#[]⟩)) (.c (.s (.slice none 0 0)) .u))))), (none, .st (.t 6) (.t 18) 4), (some 7, .mv (.t 19))]⟩] [0, 1, 7])
 (.seq (.rg [⟨none, [(some 20, .mv (.t 7)), (some 21, .un .not (.t 20))]⟩] [0, 1, 21])
 (.ite (.t 21)
 (.seq (.rg [⟨none, [(some 4, .mv (.c (.string ⟨#[]⟩))), (some 5, .mv (.c (.int .i64 4)))]⟩] [4, 5])
 .ret)
 .skip)))
 (.seq (.seq (.rg [⟨none, [(some 22, .mv (.t 0)), (some 23, .mv (.t 1)), (some 24, .call 14 [(.t 22), (.t 23), (.c (.int .i64 2))])]⟩] [0, 1, 24])
 (.ite (.t 24)
 (.seq (.rg [⟨none, [(some 4, .mv (.c (.string ⟨#[]⟩))), (some 5, .mv (.c (.int .i64 201)))]⟩] [4, 5])
 .ret)
 .skip))
 (.seq (.rg [⟨none, [(some 8, .mv (.c (.slice none 0 0)))]⟩] [0, 1, 8])
 (.seq (.block 0 (.loop c_path_Of_L0))
 (.seq (.rg [⟨none, [(some 43, .mv (.t 8)), (some 44, .call 15 [(.t 43), (.c (.string ⟨#[47]⟩))]), (some 45, .bin .add (.c (.string ⟨#[47]⟩)) (.t 44)), (some 4, .mv (.t 45)), (some 5, .mv (.c (.int .i64 0)))]⟩] [4, 5])
 .ret)))))))
theorem k_path_Of : Ok Tryd.prog 6 c_path_Of 46 [] [.tmp 4, .tmp 5] := Ok.mk' Tryd.func6 (by kernel_rfl) (by kernel_rfl) (by kernel_rfl)

abbrev f_path_List : Nat := 7
def c_path_List : Cd :=
 (.seq (.rg [⟨none, [(some 4, .mv (.c (.slice none 0 0))), (some 5, .mv (.c (.int .i64 0)))]⟩] [0, 1])
 (.seq (.rg [⟨none, [(some 9, .mv (.t 0)), (some 10, .mv (.t 1)), (some 11, .call 5 [(.t 9), (.t 10)]), (some 8, .mv (.t 11)), (some 12, .ext (.t 8) 0), (some 13, .ext (.t 8) 1), (some 6, .mv (.t 12)), (some 7, .mv (.t 13))]⟩] [0, 6, 7])
 (.seq (.seq (.rg [⟨none, [(some 14, .mv (.t 7)), (some 15, .bin .neq (.t 14) (.c (.int .i64 0)))]⟩] [0, 6, 7, 15])
 (.ite (.t 15)
 (.seq (.rg [⟨none, [(some 16, .mv (.t 7)), (some 4, .mv (.c (.slice none 0 0))), (some 5, .mv (.t 16))]⟩] [4, 5])
 .ret)
 .skip))
 (.seq (.rg [⟨none, [(some 17, .mv (.t 0)), (some 18, .mv (.t 6)), (some 19, .call 16 [(.t 17), (.t 18)]), (some 4, .mv (.t 19)), (some 5, .mv (.c (.int .i64 0)))]⟩] [4, 5])
 .ret))))
theorem k_path_List : Ok Tryd.prog 7 c_path_List 20 [] [.tmp 4, .tmp 5] := Ok.mk' Tryd.func7 (by kernel_rfl) (by kernel_rfl) (by kernel_rfl)

abbrev f_path_Attrs : Nat := 8
def c_path_Attrs : Cd :=
 (.seq (.rg [⟨none, [(some 4, .mv (.c (.slice none 0 0))), (some 5, .mv (.c (.int .i64 0)))]⟩] [0, 1])
 (.seq (.rg [⟨none, [(some 11, .mv (.t 0)), (some 12, .mv (.t 1)), (some 13, .call 5 [(.t 11), (.t 12)]), (some 10, .mv (.t 13)), (some 14, .ext (.t 10) 0), (some 15, .ext (.t 10) 1), (some 6, .mv (.t 14)), (some 7, .mv (.t 15))]⟩] [0, 6, 7])
 (.seq (.seq (.rg [⟨none, [(some 16, .mv (.t 7)), (some 17, .bin .neq (.t 16) (.c (.int .i64 0)))]⟩] [0, 6, 7, 17])
 (.ite (.t 17)
 (.seq (.rg [⟨none, [(some 18, .mv (.t 7)), (some 4, .mv (.c (.slice none 0 0))), (some 5, .mv (.t 18))]⟩] [4, 5])
 .ret)
 .skip))
 (.seq (.rg [⟨none, [(some 20, .mv (.t 0)), (some 21, .mv (.t 6)), (some 22, .call 13 [(.t 20), (.t 21)]), (some 19, .mv (.t 22)), (some 23, .ext (.t 19) 0), (some 24, .ext (.t 19) 1), (some 8, .new 50 (.c (.s (.int .i64 0)) (.c (.s (.int .i64 0)) (.c (.s (.string ⟨#[]⟩)) (.c (.s (.slice none 0 0)) .u))))), (none, .st (.t 8) (.t 23) 4), (some 9, .mv (.t 24))]⟩] [8])
 (.seq (.rg [⟨none, [(some 25, .fldA (.t 8) 3 3), (some 26, .ld (.t 25) 1 false), (some 4, .mv (.t 26)), (some 5, .mv (.c (.int .i64 0)))]⟩] [4, 5])
 .ret)))))
theorem k_path_Attrs : Ok Tryd.prog 8 c_path_Attrs 27 [] [.tmp 4, .tmp 5] := Ok.mk' Tryd.func8 (by kernel_rfl) (by kernel_rfl) (by kernel_rfl)

abbrev f_law20_PathNone : Nat := 3
def c_law20_PathNone_L0 : Cd :=
 (.seq (.rg [⟨none, [(some 22, .bin .lss (.t 21) (.t 20))]⟩] [0, 1, 19, 20, 21, 22])
 (.seq (.ite (.t 22)
 .skip
 (.exit 0))
 (.seq (.block 1 (.seq (.rg [⟨none, [(some 23, .idxS (.t 19) (.t 21) 1), (some 24, .ld (.t 23) 1 false), (some 6, .mv (.t 24))]⟩] [0, 1, 6, 19, 20, 21])
 (.seq (.rg [⟨none, [(some 26, .mv (.t 6)), (some 27, .mv (.t 0)), (some 28, .call 5 [(.t 26), (.t 27)]), (some 25, .mv (.t 28)), (some 29, .ext (.t 25) 0), (some 30, .ext (.t 25) 1), (some 7, .mv (.t 29)), (some 8, .mv (.t 30))]⟩] [0, 1, 6, 7, 8, 19, 20, 21])
 (.seq (.rg [⟨none, [(some 32, .mv (.t 6)), (some 33, .mv (.t 1)), (some 34, .call 6 [(.t 32), (.t 33)]), (some 31, .mv (.t 34)), (some 35, .ext (.t 31) 0), (some 36, .ext (.t 31) 1), (some 9, .mv (.t 35)), (some 10, .mv (.t 36))]⟩] [0, 1, 6, 7, 8, 9, 10, 19, 20, 21])
 (.seq (.rg [⟨none, [(some 38, .mv (.t 6)), (some 39, .mv (.t 0)), (some 40, .call 7 [(.t 38), (.t 39)]), (some 37, .mv (.t 40)), (some 41, .ext (.t 37) 0), (some 42, .ext (.t 37) 1), (some 11, .mv (.t 41)), (some 12, .mv (.t 42))]⟩] [0, 1, 6, 7, 8, 9, 10, 11, 12, 19, 20, 21])
 (.seq (.rg [⟨none, [(some 44, .mv (.t 6)), (some 45, .mv (.t 0)), (some 46, .call 8 [(.t 44), (.t 45)]), (some 43, .mv (.t 46)), (some 47, .ext (.t 43) 0), (some 48, .ext (.t 43) 1), (some 13, .mv (.t 47)), (some 14, .mv (.t 48))]⟩] [0, 1, 7, 8, 9, 10, 11, 12, 13, 14, 19, 20, 21])
 (.seq (.rg [⟨none, [(some 49, .mv (.t 7)), (some 50, .bin .neq (.t 49) (.c (.int .i64 0))), (some 51, .mv (.t 50))]⟩, ⟨some (51, false), [(some 52, .mv (.t 9)), (some 53, .bin .neq (.t 52) (.c (.string ⟨#[]⟩)))]⟩, ⟨none, [(some 54, .pick (.t 51) (.c (.bool true)) (.t 53)), (some 55, .mv (.t 54))]⟩, ⟨some (55, false), [(some 56, .mv (.t 11)), (some 57, .len (.t 56)), (some 58, .mv (.t 13)), (some 59, .len (.t 58)), (some 60, .bin .add (.t 57) (.t 59)), (some 61, .bin .neq (.t 60) (.c (.int .i64 0)))]⟩, ⟨none, [(some 62, .pick (.t 55) (.c (.bool true)) (.t 61)), (some 63, .mv (.t 62))]⟩, ⟨some (63, false), [(some 64, .mv (.t 8)), (some 65, .bin .neq (.t 64) (.c (.int .i64 2)))]⟩, ⟨none, [(some 66, .pick (.t 63) (.c (.bool true)) (.t 65)), (some 67, .mv (.t 66))]⟩, ⟨some (67, false), [(some 68, .mv (.t 10)), (some 69, .bin .neq (.t 68) (.c (.int .i64 2)))]⟩, ⟨none, [(some 70, .pick (.t 67) (.c (.bool true)) (.t 69)), (some 71, .mv (.t 70))]⟩, ⟨some (71, false), [(some 72, .mv (.t 12)), (some 73, .bin .neq (.t 72) (.c (.int .i64 2)))]⟩, ⟨none, [(some 74, .pick (.t 71) (.c (.bool true)) (.t 73)), (some 75, .mv (.t 74))]⟩, ⟨some (75, false), [(some 76, .mv (.t 14)), (some 77, .bin .neq (.t 76) (.c (.int .i64 2)))]⟩, ⟨none, [(some 78, .pick (.t 75) (.c (.bool true)) (.t 77))]⟩] [0, 1, 19, 20, 21, 78])
 (.ite (.t 78)
 (.seq (.rg [⟨none, [(some 4, .mv (.c (.bool false)))]⟩] [4])
 .ret)
 .skip))))))))
 (.rg [⟨none, [(some 79, .bin .add (.t 21) (.c (.int .i64 1))), (some 21, .mv (.t 79))]⟩] [0, 1, 19, 20, 21]))))
def c_law20_PathNone : Cd :=
 (.seq (.rg [⟨none, [(some 4, .mv (.c (.bool false)))]⟩] [0, 1])
 (.seq (.seq (.rg [⟨none, [(some 15, .call 4 []), (some 16, .un .not (.t 15))]⟩] [0, 1, 16])
 (.ite (.t 16)
 (.seq (.rg [⟨none, [(some 4, .mv (.c (.bool false)))]⟩] [4])
 .ret)
 .skip))
 (.seq (.seq (.rg [⟨none, [(some 17, .bld (.c (.s (.map none)) (.c (.s (.pointer none)) (.c (.s (.int .i64 0)) (.c (.s (.slice none 0 0)) (.c (.s (.int .i64 0)) .u))))) []), (some 18, .box 28 (.t 17)), (none, .gh), (some 19, .bldS 23 1 (.s (.pointer none)) [(.c (.pointer none)), (.t 18)]), (some 20, .len (.t 19)), (some 21, .mv (.c (.int .i64 0)))]⟩] [0, 1, 19, 20, 21])
 (.block 0 (.loop c_law20_PathNone_L0)))
 (.seq (.rg [⟨none, [(some 4, .mv (.c (.bool true)))]⟩] [4])
 .ret))))
theorem k_law20_PathNone : Ok Tryd.prog 3 c_law20_PathNone 80 [] [.tmp 4] := Ok.mk' Tryd.func3 (by kernel_rfl) (by kernel_rfl) (by kernel_rfl)

end Go.Proofs.YtnoeabmpdjpfaaaDoor.Vc

/- PathNone: a tree that no call made: the law answers true and leaves its arguments as they were. -/
set_option linter.unusedVariables false
set_option linter.unusedSimpArgs false
set_option maxRecDepth 100000
namespace Go.Proofs.YtnoeabmpdjpfaaaDoor.Vc
open Go Go.Proofs

def ptr (b : Nat) : Value := .pointer (some ⟨b, 0, none⟩)
/-- A tree that no call made. -/
def NoneT (u : PH) (v : Value) : Prop := v = .pointer none ∨ ∃ b e, v = ptr b ∧ u b = some (.cells #[.map none, .pointer none, .int .i64 0, .slice none 0 0, .int .i64 0] e (0, 0))
theorem NoneT.one {u : PH} {v : Value} (h : NoneT u v) : v.oneCell' = true := by
  rcases h with rfl | ⟨b, e, rfl, _⟩ <;> rfl
theorem NoneT.up {u u' : PH} {v : Value} (h : NoneT u v) (hs : PH.sub u u') : NoneT u' v := by
  rcases h with h | ⟨b, e, h1, h2⟩
  · exact .inl h
  · exact .inr ⟨b, e, h1, hs _ _ h2⟩
theorem eqG_map0 {P : Program} {t k e : TypeId} (ht : P.underlying t = some (.map k e)) : EqG P t (.s (.map none)) (.s (.map none)) true := by
  have h0 : ∀ d w, (_root_.Go.Op.equalIn (d + 1) t (.map none) (.map none)).run P w = .ok true w := fun d w => by
    simp [_root_.Go.Op.equalIn, Sem.run_bind, run_underlying' ht]
  have h : ∀ w, (_root_.Go.Op.equal t (.map none) (.map none)).run P w = .ok true w := fun w => h0 9999 w
  intro x y w
  exact ⟨by simp [eqGuard, binOp, Sem.run_bind, GV.val, h], by simp [eqGuard, binOp, Sem.run_bind, GV.val, h]⟩
theorem seen_c0 {C : Ctx} {ph : List PH} {m u : PH} (hk : KN C.u0 (m :: ph) u) {b : Nat} {cs : Array Value} {e : TypeId} {fz : Nat × Nat} (h : u b = some (.cells cs e fz)) {j : Nat} {v : Value} (hj : cs[j]? = some v) (hv : v.oneCell' = true) : Seen C ph m b j (.s v) :=
  seen_of hk h hv fun i w hi => by
    cases i with
    | zero =>
      obtain rfl : v = w := by simpa [GV.flat] using hi
      simpa using hj
    | succ i => simp [GV.flat] at hi
theorem kn_u {w : World} {u : PH} {N : Nat} (hu : u.le w) {l : List PH} : KN (⟨Tryd.prog, N, w, PH.no⟩ : Ctx).u0 l u := fun b o h => .inl (by rw [u0_no]; exact hu b o h)

theorem avs_two {u : PH} {a b : Value} (ha : a.oneCell' = true) (hb : b.oneCell' = true) : ∀ x ∈ [AV.g (.s a), .g (.s b)], x.ok u := by
  intro x hx
  simp only [List.mem_cons, List.not_mem_nil, or_false] at hx
  rcases hx with rfl | rfl
  · exact ha
  · exact hb
section
variable {w : World} {u : PH} {v : Value}
theorem none_is (hu : u.le w) (h : NoneT u v) : Spec Tryd.prog f_tree_Tree_none [v] PH.no w fun rs _ => rs = [.s (.bool true)] := by
  refine spec_val k_tree_Tree_none (Qf := fun rs => rs = [.s (.bool true)]) [.g (.s v)] (by simp) (by simp [AV.ok, GV.ok, h.one]) ?_
  have hk : ∀ {l : List PH}, KN (⟨Tryd.prog, 12, w, PH.no⟩ : Ctx).u0 l u := kn_u hu
  rcases h with rfl | ⟨b, e, rfl, hb⟩
  · simp (maxSteps := 2000000) only [c_tree_Tree_none, vc_skip, vc_ret, vc_exit, vc_seq, vc_block, vc_scope, scopeQ_n, scopeQ_r, scopeQ_e, vc_rg, vc_rgq, vc_rga, vc_ite, thenQ_n, thenQ_r, thenQ_e, blockQ_n, blockQ_r, blockQ_e, kKeep_eq, loopQ_r, loopQ_e, loopQ_n, finQ_r, finQ_n, segs_nil, segs_n, segs_g, ops_nil, ops_cons, qsegs_nil, qsegs_n, qsegs_g, qops_nil, qops_cons, ot_done, ot_op, ot_or, ot_held, oh_done, oh_op, oh_or, oh_first, oh_firstg, heldC_eq, heldF_eq, heldOk, heldK, ldH, heldM_self, heldM_one, heldM_two, heldM_three, List.contains_cons, List.contains_nil, Bool.or_false, Bool.or_true, Bool.true_or, Bool.false_or, vcqOp, vcOp, isRd, RO.isGh, skip_mk, skipL, ev, evL, gvL, scL, look, updL, put_mk, put_mk0, keep_mk, keepL, rowE, rowD, bndN, binV, binC, unV, GV.getT, GV.fld, GV.sz, GV.same, GV.setT, Value.oneCell', cond_true, cond_false, Nat.reduceEqDiff, Nat.reduceAdd, Nat.reduceMul, Nat.reduceSub, Nat.reduceBEq, Nat.reduceLeDiff, ↓reduceIte, reduceCtorEq, List.nil_append, List.cons_append, List.append_nil, Nat.zero_add, Nat.add_zero, Bool.and_true, Bool.true_and, Bool.not_true, Bool.not_false, BEq.rfl, decide_true, decide_false, true_and, and_true, initF, initP, List.map_cons, List.map_nil, Option.map_some, szAll, List.length_cons, List.length_nil, finW_r, finW_n, resL, resOne, Option.bind_some, true_imp_iff, false_imp_iff, Bool.true_eq_false, Bool.false_eq_true, Int.toNat_natCast, Int.reduceToNat, Int.reduceLE, Int.reduceLT, Int.reduceAdd, Int.reduceSub, Int.reduceEq, decide_eq_true_eq, decide_eq_false_iff_not, kill, SV.mentions, ne_eq, not_false_eq_true, not_true_eq_false, List.drop_zero, List.take_succ_cons, List.take_zero, dOk, ↓br_tt, ↓br_ff, ↓br_tf, ↓br_ft, br_t, br_f, Bool.bne_false, Bool.bne_true, GV.bldT, GV.bldC, gVec_get, gVec_set, gVec_arr, gVec_fits, gVec_sz, gVec_sameT, gVec_zero, gVec_isS, gVec2_get, gVec2_arr, gVec2_fits, gVec2_sz, gVec2_sameT, gVec2_zero, gVec2_set, same_int, getT_nil, setT_nil, getD_gi, List.length_map, fits_s, fits_c, fits_ar, arr_ar, get_nil, mkS_size, getD_gN, getD_gb, mkS_at, mkS_e0, mkS_e46, mkS_e4646, mkS_e47, mkS_ext, List.length_map]
    refine eq_of (eqG_nilp Tryd.underlying23) ?_
    simp (maxSteps := 2000000) only [vc_skip, vc_ret, vc_exit, vc_seq, vc_block, vc_scope, scopeQ_n, scopeQ_r, scopeQ_e, vc_rg, vc_rgq, vc_rga, vc_ite, thenQ_n, thenQ_r, thenQ_e, blockQ_n, blockQ_r, blockQ_e, kKeep_eq, loopQ_r, loopQ_e, loopQ_n, finQ_r, finQ_n, segs_nil, segs_n, segs_g, ops_nil, ops_cons, qsegs_nil, qsegs_n, qsegs_g, qops_nil, qops_cons, ot_done, ot_op, ot_or, ot_held, oh_done, oh_op, oh_or, oh_first, oh_firstg, heldC_eq, heldF_eq, heldOk, heldK, ldH, heldM_self, heldM_one, heldM_two, heldM_three, List.contains_cons, List.contains_nil, Bool.or_false, Bool.or_true, Bool.true_or, Bool.false_or, vcqOp, vcOp, isRd, RO.isGh, skip_mk, skipL, ev, evL, gvL, scL, look, updL, put_mk, put_mk0, keep_mk, keepL, rowE, rowD, bndN, binV, binC, unV, GV.getT, GV.fld, GV.sz, GV.same, GV.setT, Value.oneCell', cond_true, cond_false, Nat.reduceEqDiff, Nat.reduceAdd, Nat.reduceMul, Nat.reduceSub, Nat.reduceBEq, Nat.reduceLeDiff, ↓reduceIte, reduceCtorEq, List.nil_append, List.cons_append, List.append_nil, Nat.zero_add, Nat.add_zero, Bool.and_true, Bool.true_and, Bool.not_true, Bool.not_false, BEq.rfl, decide_true, decide_false, true_and, and_true, initF, initP, List.map_cons, List.map_nil, Option.map_some, szAll, List.length_cons, List.length_nil, finW_r, finW_n, resL, resOne, Option.bind_some, true_imp_iff, false_imp_iff, Bool.true_eq_false, Bool.false_eq_true, Int.toNat_natCast, Int.reduceToNat, Int.reduceLE, Int.reduceLT, Int.reduceAdd, Int.reduceSub, Int.reduceEq, decide_eq_true_eq, decide_eq_false_iff_not, kill, SV.mentions, ne_eq, not_false_eq_true, not_true_eq_false, List.drop_zero, List.take_succ_cons, List.take_zero, dOk, ↓br_tt, ↓br_ff, ↓br_tf, ↓br_ft, br_t, br_f, Bool.bne_false, Bool.bne_true, GV.bldT, GV.bldC, gVec_get, gVec_set, gVec_arr, gVec_fits, gVec_sz, gVec_sameT, gVec_zero, gVec_isS, gVec2_get, gVec2_arr, gVec2_fits, gVec2_sz, gVec2_sameT, gVec2_zero, gVec2_set, same_int, getT_nil, setT_nil, getD_gi, List.length_map, fits_s, fits_c, fits_ar, arr_ar, get_nil, mkS_size, getD_gN, getD_gb, mkS_at, mkS_e0, mkS_e46, mkS_e4646, mkS_e47, mkS_ext, List.length_map]
  · unfold ptr
    simp (maxSteps := 2000000) only [c_tree_Tree_none, vc_skip, vc_ret, vc_exit, vc_seq, vc_block, vc_scope, scopeQ_n, scopeQ_r, scopeQ_e, vc_rg, vc_rgq, vc_rga, vc_ite, thenQ_n, thenQ_r, thenQ_e, blockQ_n, blockQ_r, blockQ_e, kKeep_eq, loopQ_r, loopQ_e, loopQ_n, finQ_r, finQ_n, segs_nil, segs_n, segs_g, ops_nil, ops_cons, qsegs_nil, qsegs_n, qsegs_g, qops_nil, qops_cons, ot_done, ot_op, ot_or, ot_held, oh_done, oh_op, oh_or, oh_first, oh_firstg, heldC_eq, heldF_eq, heldOk, heldK, ldH, heldM_self, heldM_one, heldM_two, heldM_three, List.contains_cons, List.contains_nil, Bool.or_false, Bool.or_true, Bool.true_or, Bool.false_or, vcqOp, vcOp, isRd, RO.isGh, skip_mk, skipL, ev, evL, gvL, scL, look, updL, put_mk, put_mk0, keep_mk, keepL, rowE, rowD, bndN, binV, binC, unV, GV.getT, GV.fld, GV.sz, GV.same, GV.setT, Value.oneCell', cond_true, cond_false, Nat.reduceEqDiff, Nat.reduceAdd, Nat.reduceMul, Nat.reduceSub, Nat.reduceBEq, Nat.reduceLeDiff, ↓reduceIte, reduceCtorEq, List.nil_append, List.cons_append, List.append_nil, Nat.zero_add, Nat.add_zero, Bool.and_true, Bool.true_and, Bool.not_true, Bool.not_false, BEq.rfl, decide_true, decide_false, true_and, and_true, initF, initP, List.map_cons, List.map_nil, Option.map_some, szAll, List.length_cons, List.length_nil, finW_r, finW_n, resL, resOne, Option.bind_some, true_imp_iff, false_imp_iff, Bool.true_eq_false, Bool.false_eq_true, Int.toNat_natCast, Int.reduceToNat, Int.reduceLE, Int.reduceLT, Int.reduceAdd, Int.reduceSub, Int.reduceEq, decide_eq_true_eq, decide_eq_false_iff_not, kill, SV.mentions, ne_eq, not_false_eq_true, not_true_eq_false, List.drop_zero, List.take_succ_cons, List.take_zero, dOk, ↓br_tt, ↓br_ff, ↓br_tf, ↓br_ft, br_t, br_f, Bool.bne_false, Bool.bne_true, GV.bldT, GV.bldC, gVec_get, gVec_set, gVec_arr, gVec_fits, gVec_sz, gVec_sameT, gVec_zero, gVec_isS, gVec2_get, gVec2_arr, gVec2_fits, gVec2_sz, gVec2_sameT, gVec2_zero, gVec2_set, same_int, getT_nil, setT_nil, getD_gi, List.length_map, fits_s, fits_c, fits_ar, arr_ar, get_nil, mkS_size, getD_gN, getD_gb, mkS_at, mkS_e0, mkS_e46, mkS_e4646, mkS_e47, mkS_ext, List.length_map]
    refine eq_of (eqG_ptr Tryd.underlying23 _) ?_
    simp (maxSteps := 2000000) only [vc_skip, vc_ret, vc_exit, vc_seq, vc_block, vc_scope, scopeQ_n, scopeQ_r, scopeQ_e, vc_rg, vc_rgq, vc_rga, vc_ite, thenQ_n, thenQ_r, thenQ_e, blockQ_n, blockQ_r, blockQ_e, kKeep_eq, loopQ_r, loopQ_e, loopQ_n, finQ_r, finQ_n, segs_nil, segs_n, segs_g, ops_nil, ops_cons, qsegs_nil, qsegs_n, qsegs_g, qops_nil, qops_cons, ot_done, ot_op, ot_or, ot_held, oh_done, oh_op, oh_or, oh_first, oh_firstg, heldC_eq, heldF_eq, heldOk, heldK, ldH, heldM_self, heldM_one, heldM_two, heldM_three, List.contains_cons, List.contains_nil, Bool.or_false, Bool.or_true, Bool.true_or, Bool.false_or, vcqOp, vcOp, isRd, RO.isGh, skip_mk, skipL, ev, evL, gvL, scL, look, updL, put_mk, put_mk0, keep_mk, keepL, rowE, rowD, bndN, binV, binC, unV, GV.getT, GV.fld, GV.sz, GV.same, GV.setT, Value.oneCell', cond_true, cond_false, Nat.reduceEqDiff, Nat.reduceAdd, Nat.reduceMul, Nat.reduceSub, Nat.reduceBEq, Nat.reduceLeDiff, ↓reduceIte, reduceCtorEq, List.nil_append, List.cons_append, List.append_nil, Nat.zero_add, Nat.add_zero, Bool.and_true, Bool.true_and, Bool.not_true, Bool.not_false, BEq.rfl, decide_true, decide_false, true_and, and_true, initF, initP, List.map_cons, List.map_nil, Option.map_some, szAll, List.length_cons, List.length_nil, finW_r, finW_n, resL, resOne, Option.bind_some, true_imp_iff, false_imp_iff, Bool.true_eq_false, Bool.false_eq_true, Int.toNat_natCast, Int.reduceToNat, Int.reduceLE, Int.reduceLT, Int.reduceAdd, Int.reduceSub, Int.reduceEq, decide_eq_true_eq, decide_eq_false_iff_not, kill, SV.mentions, ne_eq, not_false_eq_true, not_true_eq_false, List.drop_zero, List.take_succ_cons, List.take_zero, dOk, ↓br_tt, ↓br_ff, ↓br_tf, ↓br_ft, br_t, br_f, Bool.bne_false, Bool.bne_true, GV.bldT, GV.bldC, gVec_get, gVec_set, gVec_arr, gVec_fits, gVec_sz, gVec_sameT, gVec_zero, gVec_isS, gVec2_get, gVec2_arr, gVec2_fits, gVec2_sz, gVec2_sameT, gVec2_zero, gVec2_set, same_int, getT_nil, setT_nil, getD_gi, List.length_map, fits_s, fits_c, fits_ar, arr_ar, get_nil, mkS_size, getD_gN, getD_gb, mkS_at, mkS_e0, mkS_e46, mkS_e4646, mkS_e47, mkS_ext, List.length_map]
    refine ld_of _ (seen_c0 hk hb (j := 0) rfl rfl) rfl ?_
    simp (maxSteps := 2000000) only [vc_skip, vc_ret, vc_exit, vc_seq, vc_block, vc_scope, scopeQ_n, scopeQ_r, scopeQ_e, vc_rg, vc_rgq, vc_rga, vc_ite, thenQ_n, thenQ_r, thenQ_e, blockQ_n, blockQ_r, blockQ_e, kKeep_eq, loopQ_r, loopQ_e, loopQ_n, finQ_r, finQ_n, segs_nil, segs_n, segs_g, ops_nil, ops_cons, qsegs_nil, qsegs_n, qsegs_g, qops_nil, qops_cons, ot_done, ot_op, ot_or, ot_held, oh_done, oh_op, oh_or, oh_first, oh_firstg, heldC_eq, heldF_eq, heldOk, heldK, ldH, heldM_self, heldM_one, heldM_two, heldM_three, List.contains_cons, List.contains_nil, Bool.or_false, Bool.or_true, Bool.true_or, Bool.false_or, vcqOp, vcOp, isRd, RO.isGh, skip_mk, skipL, ev, evL, gvL, scL, look, updL, put_mk, put_mk0, keep_mk, keepL, rowE, rowD, bndN, binV, binC, unV, GV.getT, GV.fld, GV.sz, GV.same, GV.setT, Value.oneCell', cond_true, cond_false, Nat.reduceEqDiff, Nat.reduceAdd, Nat.reduceMul, Nat.reduceSub, Nat.reduceBEq, Nat.reduceLeDiff, ↓reduceIte, reduceCtorEq, List.nil_append, List.cons_append, List.append_nil, Nat.zero_add, Nat.add_zero, Bool.and_true, Bool.true_and, Bool.not_true, Bool.not_false, BEq.rfl, decide_true, decide_false, true_and, and_true, initF, initP, List.map_cons, List.map_nil, Option.map_some, szAll, List.length_cons, List.length_nil, finW_r, finW_n, resL, resOne, Option.bind_some, true_imp_iff, false_imp_iff, Bool.true_eq_false, Bool.false_eq_true, Int.toNat_natCast, Int.reduceToNat, Int.reduceLE, Int.reduceLT, Int.reduceAdd, Int.reduceSub, Int.reduceEq, decide_eq_true_eq, decide_eq_false_iff_not, kill, SV.mentions, ne_eq, not_false_eq_true, not_true_eq_false, List.drop_zero, List.take_succ_cons, List.take_zero, dOk, ↓br_tt, ↓br_ff, ↓br_tf, ↓br_ft, br_t, br_f, Bool.bne_false, Bool.bne_true, GV.bldT, GV.bldC, gVec_get, gVec_set, gVec_arr, gVec_fits, gVec_sz, gVec_sameT, gVec_zero, gVec_isS, gVec2_get, gVec2_arr, gVec2_fits, gVec2_sz, gVec2_sameT, gVec2_zero, gVec2_set, same_int, getT_nil, setT_nil, getD_gi, List.length_map, fits_s, fits_c, fits_ar, arr_ar, get_nil, mkS_size, getD_gN, getD_gb, mkS_at, mkS_e0, mkS_e46, mkS_e4646, mkS_e47, mkS_ext, List.length_map]
    refine eq_of (eqG_map0 Tryd.underlying24) ?_
    simp (maxSteps := 2000000) only [vc_skip, vc_ret, vc_exit, vc_seq, vc_block, vc_scope, scopeQ_n, scopeQ_r, scopeQ_e, vc_rg, vc_rgq, vc_rga, vc_ite, thenQ_n, thenQ_r, thenQ_e, blockQ_n, blockQ_r, blockQ_e, kKeep_eq, loopQ_r, loopQ_e, loopQ_n, finQ_r, finQ_n, segs_nil, segs_n, segs_g, ops_nil, ops_cons, qsegs_nil, qsegs_n, qsegs_g, qops_nil, qops_cons, ot_done, ot_op, ot_or, ot_held, oh_done, oh_op, oh_or, oh_first, oh_firstg, heldC_eq, heldF_eq, heldOk, heldK, ldH, heldM_self, heldM_one, heldM_two, heldM_three, List.contains_cons, List.contains_nil, Bool.or_false, Bool.or_true, Bool.true_or, Bool.false_or, vcqOp, vcOp, isRd, RO.isGh, skip_mk, skipL, ev, evL, gvL, scL, look, updL, put_mk, put_mk0, keep_mk, keepL, rowE, rowD, bndN, binV, binC, unV, GV.getT, GV.fld, GV.sz, GV.same, GV.setT, Value.oneCell', cond_true, cond_false, Nat.reduceEqDiff, Nat.reduceAdd, Nat.reduceMul, Nat.reduceSub, Nat.reduceBEq, Nat.reduceLeDiff, ↓reduceIte, reduceCtorEq, List.nil_append, List.cons_append, List.append_nil, Nat.zero_add, Nat.add_zero, Bool.and_true, Bool.true_and, Bool.not_true, Bool.not_false, BEq.rfl, decide_true, decide_false, true_and, and_true, initF, initP, List.map_cons, List.map_nil, Option.map_some, szAll, List.length_cons, List.length_nil, finW_r, finW_n, resL, resOne, Option.bind_some, true_imp_iff, false_imp_iff, Bool.true_eq_false, Bool.false_eq_true, Int.toNat_natCast, Int.reduceToNat, Int.reduceLE, Int.reduceLT, Int.reduceAdd, Int.reduceSub, Int.reduceEq, decide_eq_true_eq, decide_eq_false_iff_not, kill, SV.mentions, ne_eq, not_false_eq_true, not_true_eq_false, List.drop_zero, List.take_succ_cons, List.take_zero, dOk, ↓br_tt, ↓br_ff, ↓br_tf, ↓br_ft, br_t, br_f, Bool.bne_false, Bool.bne_true, GV.bldT, GV.bldC, gVec_get, gVec_set, gVec_arr, gVec_fits, gVec_sz, gVec_sameT, gVec_zero, gVec_isS, gVec2_get, gVec2_arr, gVec2_fits, gVec2_sz, gVec2_sameT, gVec2_zero, gVec2_set, same_int, getT_nil, setT_nil, getD_gi, List.length_map, fits_s, fits_c, fits_ar, arr_ar, get_nil, mkS_size, getD_gN, getD_gb, mkS_at, mkS_e0, mkS_e46, mkS_e4646, mkS_e47, mkS_ext, List.length_map]
theorem Len_none (hu : u.le w) (h : NoneT u v) : Spec Tryd.prog f_tree_Tree_Len [v] PH.no w fun rs _ => rs = [.s (.int .i64 0)] := by
  refine spec_val k_tree_Tree_Len (Qf := fun rs => rs = [.s (.int .i64 0)]) [.g (.s v)] (by simp) (by simp [AV.ok, GV.ok, h.one]) ?_
  simp (maxSteps := 2000000) only [c_tree_Tree_Len, vc_skip, vc_ret, vc_exit, vc_seq, vc_block, vc_scope, scopeQ_n, scopeQ_r, scopeQ_e, vc_rg, vc_rgq, vc_rga, vc_ite, thenQ_n, thenQ_r, thenQ_e, blockQ_n, blockQ_r, blockQ_e, kKeep_eq, loopQ_r, loopQ_e, loopQ_n, finQ_r, finQ_n, segs_nil, segs_n, segs_g, ops_nil, ops_cons, qsegs_nil, qsegs_n, qsegs_g, qops_nil, qops_cons, ot_done, ot_op, ot_or, ot_held, oh_done, oh_op, oh_or, oh_first, oh_firstg, heldC_eq, heldF_eq, heldOk, heldK, ldH, heldM_self, heldM_one, heldM_two, heldM_three, List.contains_cons, List.contains_nil, Bool.or_false, Bool.or_true, Bool.true_or, Bool.false_or, vcqOp, vcOp, isRd, RO.isGh, skip_mk, skipL, ev, evL, gvL, scL, look, updL, put_mk, put_mk0, keep_mk, keepL, rowE, rowD, bndN, binV, binC, unV, GV.getT, GV.fld, GV.sz, GV.same, GV.setT, Value.oneCell', cond_true, cond_false, Nat.reduceEqDiff, Nat.reduceAdd, Nat.reduceMul, Nat.reduceSub, Nat.reduceBEq, Nat.reduceLeDiff, ↓reduceIte, reduceCtorEq, List.nil_append, List.cons_append, List.append_nil, Nat.zero_add, Nat.add_zero, Bool.and_true, Bool.true_and, Bool.not_true, Bool.not_false, BEq.rfl, decide_true, decide_false, true_and, and_true, initF, initP, List.map_cons, List.map_nil, Option.map_some, szAll, List.length_cons, List.length_nil, finW_r, finW_n, resL, resOne, Option.bind_some, true_imp_iff, false_imp_iff, Bool.true_eq_false, Bool.false_eq_true, Int.toNat_natCast, Int.reduceToNat, Int.reduceLE, Int.reduceLT, Int.reduceAdd, Int.reduceSub, Int.reduceEq, decide_eq_true_eq, decide_eq_false_iff_not, kill, SV.mentions, ne_eq, not_false_eq_true, not_true_eq_false, List.drop_zero, List.take_succ_cons, List.take_zero, dOk, ↓br_tt, ↓br_ff, ↓br_tf, ↓br_ft, br_t, br_f, Bool.bne_false, Bool.bne_true, GV.bldT, GV.bldC, gVec_get, gVec_set, gVec_arr, gVec_fits, gVec_sz, gVec_sameT, gVec_zero, gVec_isS, gVec2_get, gVec2_arr, gVec2_fits, gVec2_sz, gVec2_sameT, gVec2_zero, gVec2_set, same_int, getT_nil, setT_nil, getD_gi, List.length_map, fits_s, fits_c, fits_ar, arr_ar, get_nil, mkS_size, getD_gN, getD_gb, mkS_at, mkS_e0, mkS_e46, mkS_e4646, mkS_e47, mkS_ext, List.length_map]
  refine call_is _ [.s (.bool true)] rfl rfl (fun w' vs hv hw => ?_) ?_
  · obtain ⟨vs, rfl, _, hv⟩ := argsV_g hv
    obtain rfl := argsV_nil hv
    intro _
    exact none_is (fun b o h => hw b o (by rw [u0_no]; exact hu b o h)) h
  simp (maxSteps := 2000000) only [retS, vc_skip, vc_ret, vc_exit, vc_seq, vc_block, vc_scope, scopeQ_n, scopeQ_r, scopeQ_e, vc_rg, vc_rgq, vc_rga, vc_ite, thenQ_n, thenQ_r, thenQ_e, blockQ_n, blockQ_r, blockQ_e, kKeep_eq, loopQ_r, loopQ_e, loopQ_n, finQ_r, finQ_n, segs_nil, segs_n, segs_g, ops_nil, ops_cons, qsegs_nil, qsegs_n, qsegs_g, qops_nil, qops_cons, ot_done, ot_op, ot_or, ot_held, oh_done, oh_op, oh_or, oh_first, oh_firstg, heldC_eq, heldF_eq, heldOk, heldK, ldH, heldM_self, heldM_one, heldM_two, heldM_three, List.contains_cons, List.contains_nil, Bool.or_false, Bool.or_true, Bool.true_or, Bool.false_or, vcqOp, vcOp, isRd, RO.isGh, skip_mk, skipL, ev, evL, gvL, scL, look, updL, put_mk, put_mk0, keep_mk, keepL, rowE, rowD, bndN, binV, binC, unV, GV.getT, GV.fld, GV.sz, GV.same, GV.setT, Value.oneCell', cond_true, cond_false, Nat.reduceEqDiff, Nat.reduceAdd, Nat.reduceMul, Nat.reduceSub, Nat.reduceBEq, Nat.reduceLeDiff, ↓reduceIte, reduceCtorEq, List.nil_append, List.cons_append, List.append_nil, Nat.zero_add, Nat.add_zero, Bool.and_true, Bool.true_and, Bool.not_true, Bool.not_false, BEq.rfl, decide_true, decide_false, true_and, and_true, initF, initP, List.map_cons, List.map_nil, Option.map_some, szAll, List.length_cons, List.length_nil, finW_r, finW_n, resL, resOne, Option.bind_some, true_imp_iff, false_imp_iff, Bool.true_eq_false, Bool.false_eq_true, Int.toNat_natCast, Int.reduceToNat, Int.reduceLE, Int.reduceLT, Int.reduceAdd, Int.reduceSub, Int.reduceEq, decide_eq_true_eq, decide_eq_false_iff_not, kill, SV.mentions, ne_eq, not_false_eq_true, not_true_eq_false, List.drop_zero, List.take_succ_cons, List.take_zero, dOk, ↓br_tt, ↓br_ff, ↓br_tf, ↓br_ft, br_t, br_f, Bool.bne_false, Bool.bne_true, GV.bldT, GV.bldC, gVec_get, gVec_set, gVec_arr, gVec_fits, gVec_sz, gVec_sameT, gVec_zero, gVec_isS, gVec2_get, gVec2_arr, gVec2_fits, gVec2_sz, gVec2_sameT, gVec2_zero, gVec2_set, same_int, getT_nil, setT_nil, getD_gi, List.length_map, fits_s, fits_c, fits_ar, arr_ar, get_nil, mkS_size, getD_gN, getD_gb, mkS_at, mkS_e0, mkS_e46, mkS_e4646, mkS_e47, mkS_ext, List.length_map]
theorem Resolve_none (hu : u.le w) (h : NoneT u v) (s : ByteArray) : Spec Tryd.prog f_path_Resolve [v, .string s] PH.no w fun rs _ => rs = [.s (.int .i64 0), .s (.int .i64 2)] := by
  refine spec_val k_path_Resolve (Qf := fun rs => rs = [.s (.int .i64 0), .s (.int .i64 2)]) [.g (.s v), .g (.s (.string s))] (by simp) (avs_two h.one rfl) ?_
  simp (maxSteps := 2000000) only [c_path_Resolve, vc_skip, vc_ret, vc_exit, vc_seq, vc_block, vc_scope, scopeQ_n, scopeQ_r, scopeQ_e, vc_rg, vc_rgq, vc_rga, vc_ite, thenQ_n, thenQ_r, thenQ_e, blockQ_n, blockQ_r, blockQ_e, kKeep_eq, loopQ_r, loopQ_e, loopQ_n, finQ_r, finQ_n, segs_nil, segs_n, segs_g, ops_nil, ops_cons, qsegs_nil, qsegs_n, qsegs_g, qops_nil, qops_cons, ot_done, ot_op, ot_or, ot_held, oh_done, oh_op, oh_or, oh_first, oh_firstg, heldC_eq, heldF_eq, heldOk, heldK, ldH, heldM_self, heldM_one, heldM_two, heldM_three, List.contains_cons, List.contains_nil, Bool.or_false, Bool.or_true, Bool.true_or, Bool.false_or, vcqOp, vcOp, isRd, RO.isGh, skip_mk, skipL, ev, evL, gvL, scL, look, updL, put_mk, put_mk0, keep_mk, keepL, rowE, rowD, bndN, binV, binC, unV, GV.getT, GV.fld, GV.sz, GV.same, GV.setT, Value.oneCell', cond_true, cond_false, Nat.reduceEqDiff, Nat.reduceAdd, Nat.reduceMul, Nat.reduceSub, Nat.reduceBEq, Nat.reduceLeDiff, ↓reduceIte, reduceCtorEq, List.nil_append, List.cons_append, List.append_nil, Nat.zero_add, Nat.add_zero, Bool.and_true, Bool.true_and, Bool.not_true, Bool.not_false, BEq.rfl, decide_true, decide_false, true_and, and_true, initF, initP, List.map_cons, List.map_nil, Option.map_some, szAll, List.length_cons, List.length_nil, finW_r, finW_n, resL, resOne, Option.bind_some, true_imp_iff, false_imp_iff, Bool.true_eq_false, Bool.false_eq_true, Int.toNat_natCast, Int.reduceToNat, Int.reduceLE, Int.reduceLT, Int.reduceAdd, Int.reduceSub, Int.reduceEq, decide_eq_true_eq, decide_eq_false_iff_not, kill, SV.mentions, ne_eq, not_false_eq_true, not_true_eq_false, List.drop_zero, List.take_succ_cons, List.take_zero, dOk, ↓br_tt, ↓br_ff, ↓br_tf, ↓br_ft, br_t, br_f, Bool.bne_false, Bool.bne_true, GV.bldT, GV.bldC, gVec_get, gVec_set, gVec_arr, gVec_fits, gVec_sz, gVec_sameT, gVec_zero, gVec_isS, gVec2_get, gVec2_arr, gVec2_fits, gVec2_sz, gVec2_sameT, gVec2_zero, gVec2_set, same_int, getT_nil, setT_nil, getD_gi, List.length_map, fits_s, fits_c, fits_ar, arr_ar, get_nil, mkS_size, getD_gN, getD_gb, mkS_at, mkS_e0, mkS_e46, mkS_e4646, mkS_e47, mkS_ext, List.length_map]
  refine call_is _ [.s (.int .i64 0)] rfl rfl (fun w' vs hv hw => ?_) ?_
  · obtain ⟨vs, rfl, _, hv⟩ := argsV_g hv
    obtain rfl := argsV_nil hv
    intro _
    exact Len_none (fun b o h => hw b o (by rw [u0_no]; exact hu b o h)) h
  simp (maxSteps := 2000000) only [retS, beq_self_eq_true, vc_skip, vc_ret, vc_exit, vc_seq, vc_block, vc_scope, scopeQ_n, scopeQ_r, scopeQ_e, vc_rg, vc_rgq, vc_rga, vc_ite, thenQ_n, thenQ_r, thenQ_e, blockQ_n, blockQ_r, blockQ_e, kKeep_eq, loopQ_r, loopQ_e, loopQ_n, finQ_r, finQ_n, segs_nil, segs_n, segs_g, ops_nil, ops_cons, qsegs_nil, qsegs_n, qsegs_g, qops_nil, qops_cons, ot_done, ot_op, ot_or, ot_held, oh_done, oh_op, oh_or, oh_first, oh_firstg, heldC_eq, heldF_eq, heldOk, heldK, ldH, heldM_self, heldM_one, heldM_two, heldM_three, List.contains_cons, List.contains_nil, Bool.or_false, Bool.or_true, Bool.true_or, Bool.false_or, vcqOp, vcOp, isRd, RO.isGh, skip_mk, skipL, ev, evL, gvL, scL, look, updL, put_mk, put_mk0, keep_mk, keepL, rowE, rowD, bndN, binV, binC, unV, GV.getT, GV.fld, GV.sz, GV.same, GV.setT, Value.oneCell', cond_true, cond_false, Nat.reduceEqDiff, Nat.reduceAdd, Nat.reduceMul, Nat.reduceSub, Nat.reduceBEq, Nat.reduceLeDiff, ↓reduceIte, reduceCtorEq, List.nil_append, List.cons_append, List.append_nil, Nat.zero_add, Nat.add_zero, Bool.and_true, Bool.true_and, Bool.not_true, Bool.not_false, BEq.rfl, decide_true, decide_false, true_and, and_true, initF, initP, List.map_cons, List.map_nil, Option.map_some, szAll, List.length_cons, List.length_nil, finW_r, finW_n, resL, resOne, Option.bind_some, true_imp_iff, false_imp_iff, Bool.true_eq_false, Bool.false_eq_true, Int.toNat_natCast, Int.reduceToNat, Int.reduceLE, Int.reduceLT, Int.reduceAdd, Int.reduceSub, Int.reduceEq, decide_eq_true_eq, decide_eq_false_iff_not, kill, SV.mentions, ne_eq, not_false_eq_true, not_true_eq_false, List.drop_zero, List.take_succ_cons, List.take_zero, dOk, ↓br_tt, ↓br_ff, ↓br_tf, ↓br_ft, br_t, br_f, Bool.bne_false, Bool.bne_true, GV.bldT, GV.bldC, gVec_get, gVec_set, gVec_arr, gVec_fits, gVec_sz, gVec_sameT, gVec_zero, gVec_isS, gVec2_get, gVec2_arr, gVec2_fits, gVec2_sz, gVec2_sameT, gVec2_zero, gVec2_set, same_int, getT_nil, setT_nil, getD_gi, List.length_map, fits_s, fits_c, fits_ar, arr_ar, get_nil, mkS_size, getD_gN, getD_gb, mkS_at, mkS_e0, mkS_e46, mkS_e4646, mkS_e47, mkS_ext, List.length_map]
theorem Of_none (hu : u.le w) (h : NoneT u v) (n : Int) : Spec Tryd.prog f_path_Of [v, .int .i64 n] PH.no w fun rs _ => rs = [.s (.string ⟨#[]⟩), .s (.int .i64 2)] := by
  refine spec_val k_path_Of (Qf := fun rs => rs = [.s (.string ⟨#[]⟩), .s (.int .i64 2)]) [.g (.s v), .g (.s (.int .i64 n))] (by simp) (avs_two h.one rfl) ?_
  simp (maxSteps := 2000000) only [c_path_Of, vc_skip, vc_ret, vc_exit, vc_seq, vc_block, vc_scope, scopeQ_n, scopeQ_r, scopeQ_e, vc_rg, vc_rgq, vc_rga, vc_ite, thenQ_n, thenQ_r, thenQ_e, blockQ_n, blockQ_r, blockQ_e, kKeep_eq, loopQ_r, loopQ_e, loopQ_n, finQ_r, finQ_n, segs_nil, segs_n, segs_g, ops_nil, ops_cons, qsegs_nil, qsegs_n, qsegs_g, qops_nil, qops_cons, ot_done, ot_op, ot_or, ot_held, oh_done, oh_op, oh_or, oh_first, oh_firstg, heldC_eq, heldF_eq, heldOk, heldK, ldH, heldM_self, heldM_one, heldM_two, heldM_three, List.contains_cons, List.contains_nil, Bool.or_false, Bool.or_true, Bool.true_or, Bool.false_or, vcqOp, vcOp, isRd, RO.isGh, skip_mk, skipL, ev, evL, gvL, scL, look, updL, put_mk, put_mk0, keep_mk, keepL, rowE, rowD, bndN, binV, binC, unV, GV.getT, GV.fld, GV.sz, GV.same, GV.setT, Value.oneCell', cond_true, cond_false, Nat.reduceEqDiff, Nat.reduceAdd, Nat.reduceMul, Nat.reduceSub, Nat.reduceBEq, Nat.reduceLeDiff, ↓reduceIte, reduceCtorEq, List.nil_append, List.cons_append, List.append_nil, Nat.zero_add, Nat.add_zero, Bool.and_true, Bool.true_and, Bool.not_true, Bool.not_false, BEq.rfl, decide_true, decide_false, true_and, and_true, initF, initP, List.map_cons, List.map_nil, Option.map_some, szAll, List.length_cons, List.length_nil, finW_r, finW_n, resL, resOne, Option.bind_some, true_imp_iff, false_imp_iff, Bool.true_eq_false, Bool.false_eq_true, Int.toNat_natCast, Int.reduceToNat, Int.reduceLE, Int.reduceLT, Int.reduceAdd, Int.reduceSub, Int.reduceEq, decide_eq_true_eq, decide_eq_false_iff_not, kill, SV.mentions, ne_eq, not_false_eq_true, not_true_eq_false, List.drop_zero, List.take_succ_cons, List.take_zero, dOk, ↓br_tt, ↓br_ff, ↓br_tf, ↓br_ft, br_t, br_f, Bool.bne_false, Bool.bne_true, GV.bldT, GV.bldC, gVec_get, gVec_set, gVec_arr, gVec_fits, gVec_sz, gVec_sameT, gVec_zero, gVec_isS, gVec2_get, gVec2_arr, gVec2_fits, gVec2_sz, gVec2_sameT, gVec2_zero, gVec2_set, same_int, getT_nil, setT_nil, getD_gi, List.length_map, fits_s, fits_c, fits_ar, arr_ar, get_nil, mkS_size, getD_gN, getD_gb, mkS_at, mkS_e0, mkS_e46, mkS_e4646, mkS_e47, mkS_ext, List.length_map]
  refine call_is _ [.s (.int .i64 0)] rfl rfl (fun w' vs hv hw => ?_) ?_
  · obtain ⟨vs, rfl, _, hv⟩ := argsV_g hv
    obtain rfl := argsV_nil hv
    intro _
    exact Len_none (fun b o h => hw b o (by rw [u0_no]; exact hu b o h)) h
  simp (maxSteps := 2000000) only [retS, beq_self_eq_true, vc_skip, vc_ret, vc_exit, vc_seq, vc_block, vc_scope, scopeQ_n, scopeQ_r, scopeQ_e, vc_rg, vc_rgq, vc_rga, vc_ite, thenQ_n, thenQ_r, thenQ_e, blockQ_n, blockQ_r, blockQ_e, kKeep_eq, loopQ_r, loopQ_e, loopQ_n, finQ_r, finQ_n, segs_nil, segs_n, segs_g, ops_nil, ops_cons, qsegs_nil, qsegs_n, qsegs_g, qops_nil, qops_cons, ot_done, ot_op, ot_or, ot_held, oh_done, oh_op, oh_or, oh_first, oh_firstg, heldC_eq, heldF_eq, heldOk, heldK, ldH, heldM_self, heldM_one, heldM_two, heldM_three, List.contains_cons, List.contains_nil, Bool.or_false, Bool.or_true, Bool.true_or, Bool.false_or, vcqOp, vcOp, isRd, RO.isGh, skip_mk, skipL, ev, evL, gvL, scL, look, updL, put_mk, put_mk0, keep_mk, keepL, rowE, rowD, bndN, binV, binC, unV, GV.getT, GV.fld, GV.sz, GV.same, GV.setT, Value.oneCell', cond_true, cond_false, Nat.reduceEqDiff, Nat.reduceAdd, Nat.reduceMul, Nat.reduceSub, Nat.reduceBEq, Nat.reduceLeDiff, ↓reduceIte, reduceCtorEq, List.nil_append, List.cons_append, List.append_nil, Nat.zero_add, Nat.add_zero, Bool.and_true, Bool.true_and, Bool.not_true, Bool.not_false, BEq.rfl, decide_true, decide_false, true_and, and_true, initF, initP, List.map_cons, List.map_nil, Option.map_some, szAll, List.length_cons, List.length_nil, finW_r, finW_n, resL, resOne, Option.bind_some, true_imp_iff, false_imp_iff, Bool.true_eq_false, Bool.false_eq_true, Int.toNat_natCast, Int.reduceToNat, Int.reduceLE, Int.reduceLT, Int.reduceAdd, Int.reduceSub, Int.reduceEq, decide_eq_true_eq, decide_eq_false_iff_not, kill, SV.mentions, ne_eq, not_false_eq_true, not_true_eq_false, List.drop_zero, List.take_succ_cons, List.take_zero, dOk, ↓br_tt, ↓br_ff, ↓br_tf, ↓br_ft, br_t, br_f, Bool.bne_false, Bool.bne_true, GV.bldT, GV.bldC, gVec_get, gVec_set, gVec_arr, gVec_fits, gVec_sz, gVec_sameT, gVec_zero, gVec_isS, gVec2_get, gVec2_arr, gVec2_fits, gVec2_sz, gVec2_sameT, gVec2_zero, gVec2_set, same_int, getT_nil, setT_nil, getD_gi, List.length_map, fits_s, fits_c, fits_ar, arr_ar, get_nil, mkS_size, getD_gN, getD_gb, mkS_at, mkS_e0, mkS_e46, mkS_e4646, mkS_e47, mkS_ext, List.length_map]
theorem List_none (hu : u.le w) (h : NoneT u v) (s : ByteArray) : Spec Tryd.prog f_path_List [v, .string s] PH.no w fun rs _ => rs = [.s (.slice none 0 0), .s (.int .i64 2)] := by
  refine spec_val k_path_List (Qf := fun rs => rs = [.s (.slice none 0 0), .s (.int .i64 2)]) [.g (.s v), .g (.s (.string s))] (by simp) (avs_two h.one rfl) ?_
  simp (maxSteps := 2000000) only [c_path_List, vc_skip, vc_ret, vc_exit, vc_seq, vc_block, vc_scope, scopeQ_n, scopeQ_r, scopeQ_e, vc_rg, vc_rgq, vc_rga, vc_ite, thenQ_n, thenQ_r, thenQ_e, blockQ_n, blockQ_r, blockQ_e, kKeep_eq, loopQ_r, loopQ_e, loopQ_n, finQ_r, finQ_n, segs_nil, segs_n, segs_g, ops_nil, ops_cons, qsegs_nil, qsegs_n, qsegs_g, qops_nil, qops_cons, ot_done, ot_op, ot_or, ot_held, oh_done, oh_op, oh_or, oh_first, oh_firstg, heldC_eq, heldF_eq, heldOk, heldK, ldH, heldM_self, heldM_one, heldM_two, heldM_three, List.contains_cons, List.contains_nil, Bool.or_false, Bool.or_true, Bool.true_or, Bool.false_or, vcqOp, vcOp, isRd, RO.isGh, skip_mk, skipL, ev, evL, gvL, scL, look, updL, put_mk, put_mk0, keep_mk, keepL, rowE, rowD, bndN, binV, binC, unV, GV.getT, GV.fld, GV.sz, GV.same, GV.setT, Value.oneCell', cond_true, cond_false, Nat.reduceEqDiff, Nat.reduceAdd, Nat.reduceMul, Nat.reduceSub, Nat.reduceBEq, Nat.reduceLeDiff, ↓reduceIte, reduceCtorEq, List.nil_append, List.cons_append, List.append_nil, Nat.zero_add, Nat.add_zero, Bool.and_true, Bool.true_and, Bool.not_true, Bool.not_false, BEq.rfl, decide_true, decide_false, true_and, and_true, initF, initP, List.map_cons, List.map_nil, Option.map_some, szAll, List.length_cons, List.length_nil, finW_r, finW_n, resL, resOne, Option.bind_some, true_imp_iff, false_imp_iff, Bool.true_eq_false, Bool.false_eq_true, Int.toNat_natCast, Int.reduceToNat, Int.reduceLE, Int.reduceLT, Int.reduceAdd, Int.reduceSub, Int.reduceEq, decide_eq_true_eq, decide_eq_false_iff_not, kill, SV.mentions, ne_eq, not_false_eq_true, not_true_eq_false, List.drop_zero, List.take_succ_cons, List.take_zero, dOk, ↓br_tt, ↓br_ff, ↓br_tf, ↓br_ft, br_t, br_f, Bool.bne_false, Bool.bne_true, GV.bldT, GV.bldC, gVec_get, gVec_set, gVec_arr, gVec_fits, gVec_sz, gVec_sameT, gVec_zero, gVec_isS, gVec2_get, gVec2_arr, gVec2_fits, gVec2_sz, gVec2_sameT, gVec2_zero, gVec2_set, same_int, getT_nil, setT_nil, getD_gi, List.length_map, fits_s, fits_c, fits_ar, arr_ar, get_nil, mkS_size, getD_gN, getD_gb, mkS_at, mkS_e0, mkS_e46, mkS_e4646, mkS_e47, mkS_ext, List.length_map]
  refine call_is _ [.s (.int .i64 0), .s (.int .i64 2)] rfl rfl (fun w' vs hv hw => ?_) ?_
  · obtain ⟨vs, rfl, _, hv⟩ := argsV_g hv
    obtain ⟨vs, rfl, _, hv⟩ := argsV_g hv
    obtain rfl := argsV_nil hv
    intro _
    exact Resolve_none (fun b o h => hw b o (by rw [u0_no]; exact hu b o h)) h s
  simp (maxSteps := 2000000) only [retS, List.getElem?_cons_zero, List.getElem?_cons_succ, show ((2 : Int) != 0) = true from rfl, vc_skip, vc_ret, vc_exit, vc_seq, vc_block, vc_scope, scopeQ_n, scopeQ_r, scopeQ_e, vc_rg, vc_rgq, vc_rga, vc_ite, thenQ_n, thenQ_r, thenQ_e, blockQ_n, blockQ_r, blockQ_e, kKeep_eq, loopQ_r, loopQ_e, loopQ_n, finQ_r, finQ_n, segs_nil, segs_n, segs_g, ops_nil, ops_cons, qsegs_nil, qsegs_n, qsegs_g, qops_nil, qops_cons, ot_done, ot_op, ot_or, ot_held, oh_done, oh_op, oh_or, oh_first, oh_firstg, heldC_eq, heldF_eq, heldOk, heldK, ldH, heldM_self, heldM_one, heldM_two, heldM_three, List.contains_cons, List.contains_nil, Bool.or_false, Bool.or_true, Bool.true_or, Bool.false_or, vcqOp, vcOp, isRd, RO.isGh, skip_mk, skipL, ev, evL, gvL, scL, look, updL, put_mk, put_mk0, keep_mk, keepL, rowE, rowD, bndN, binV, binC, unV, GV.getT, GV.fld, GV.sz, GV.same, GV.setT, Value.oneCell', cond_true, cond_false, Nat.reduceEqDiff, Nat.reduceAdd, Nat.reduceMul, Nat.reduceSub, Nat.reduceBEq, Nat.reduceLeDiff, ↓reduceIte, reduceCtorEq, List.nil_append, List.cons_append, List.append_nil, Nat.zero_add, Nat.add_zero, Bool.and_true, Bool.true_and, Bool.not_true, Bool.not_false, BEq.rfl, decide_true, decide_false, true_and, and_true, initF, initP, List.map_cons, List.map_nil, Option.map_some, szAll, List.length_cons, List.length_nil, finW_r, finW_n, resL, resOne, Option.bind_some, true_imp_iff, false_imp_iff, Bool.true_eq_false, Bool.false_eq_true, Int.toNat_natCast, Int.reduceToNat, Int.reduceLE, Int.reduceLT, Int.reduceAdd, Int.reduceSub, Int.reduceEq, decide_eq_true_eq, decide_eq_false_iff_not, kill, SV.mentions, ne_eq, not_false_eq_true, not_true_eq_false, List.drop_zero, List.take_succ_cons, List.take_zero, dOk, ↓br_tt, ↓br_ff, ↓br_tf, ↓br_ft, br_t, br_f, Bool.bne_false, Bool.bne_true, GV.bldT, GV.bldC, gVec_get, gVec_set, gVec_arr, gVec_fits, gVec_sz, gVec_sameT, gVec_zero, gVec_isS, gVec2_get, gVec2_arr, gVec2_fits, gVec2_sz, gVec2_sameT, gVec2_zero, gVec2_set, same_int, getT_nil, setT_nil, getD_gi, List.length_map, fits_s, fits_c, fits_ar, arr_ar, get_nil, mkS_size, getD_gN, getD_gb, mkS_at, mkS_e0, mkS_e46, mkS_e4646, mkS_e47, mkS_ext, List.length_map]
theorem Attrs_none (hu : u.le w) (h : NoneT u v) (s : ByteArray) : Spec Tryd.prog f_path_Attrs [v, .string s] PH.no w fun rs _ => rs = [.s (.slice none 0 0), .s (.int .i64 2)] := by
  refine spec_val k_path_Attrs (Qf := fun rs => rs = [.s (.slice none 0 0), .s (.int .i64 2)]) [.g (.s v), .g (.s (.string s))] (by simp) (avs_two h.one rfl) ?_
  simp (maxSteps := 2000000) only [c_path_Attrs, vc_skip, vc_ret, vc_exit, vc_seq, vc_block, vc_scope, scopeQ_n, scopeQ_r, scopeQ_e, vc_rg, vc_rgq, vc_rga, vc_ite, thenQ_n, thenQ_r, thenQ_e, blockQ_n, blockQ_r, blockQ_e, kKeep_eq, loopQ_r, loopQ_e, loopQ_n, finQ_r, finQ_n, segs_nil, segs_n, segs_g, ops_nil, ops_cons, qsegs_nil, qsegs_n, qsegs_g, qops_nil, qops_cons, ot_done, ot_op, ot_or, ot_held, oh_done, oh_op, oh_or, oh_first, oh_firstg, heldC_eq, heldF_eq, heldOk, heldK, ldH, heldM_self, heldM_one, heldM_two, heldM_three, List.contains_cons, List.contains_nil, Bool.or_false, Bool.or_true, Bool.true_or, Bool.false_or, vcqOp, vcOp, isRd, RO.isGh, skip_mk, skipL, ev, evL, gvL, scL, look, updL, put_mk, put_mk0, keep_mk, keepL, rowE, rowD, bndN, binV, binC, unV, GV.getT, GV.fld, GV.sz, GV.same, GV.setT, Value.oneCell', cond_true, cond_false, Nat.reduceEqDiff, Nat.reduceAdd, Nat.reduceMul, Nat.reduceSub, Nat.reduceBEq, Nat.reduceLeDiff, ↓reduceIte, reduceCtorEq, List.nil_append, List.cons_append, List.append_nil, Nat.zero_add, Nat.add_zero, Bool.and_true, Bool.true_and, Bool.not_true, Bool.not_false, BEq.rfl, decide_true, decide_false, true_and, and_true, initF, initP, List.map_cons, List.map_nil, Option.map_some, szAll, List.length_cons, List.length_nil, finW_r, finW_n, resL, resOne, Option.bind_some, true_imp_iff, false_imp_iff, Bool.true_eq_false, Bool.false_eq_true, Int.toNat_natCast, Int.reduceToNat, Int.reduceLE, Int.reduceLT, Int.reduceAdd, Int.reduceSub, Int.reduceEq, decide_eq_true_eq, decide_eq_false_iff_not, kill, SV.mentions, ne_eq, not_false_eq_true, not_true_eq_false, List.drop_zero, List.take_succ_cons, List.take_zero, dOk, ↓br_tt, ↓br_ff, ↓br_tf, ↓br_ft, br_t, br_f, Bool.bne_false, Bool.bne_true, GV.bldT, GV.bldC, gVec_get, gVec_set, gVec_arr, gVec_fits, gVec_sz, gVec_sameT, gVec_zero, gVec_isS, gVec2_get, gVec2_arr, gVec2_fits, gVec2_sz, gVec2_sameT, gVec2_zero, gVec2_set, same_int, getT_nil, setT_nil, getD_gi, List.length_map, fits_s, fits_c, fits_ar, arr_ar, get_nil, mkS_size, getD_gN, getD_gb, mkS_at, mkS_e0, mkS_e46, mkS_e4646, mkS_e47, mkS_ext, List.length_map]
  refine call_is _ [.s (.int .i64 0), .s (.int .i64 2)] rfl rfl (fun w' vs hv hw => ?_) ?_
  · obtain ⟨vs, rfl, _, hv⟩ := argsV_g hv
    obtain ⟨vs, rfl, _, hv⟩ := argsV_g hv
    obtain rfl := argsV_nil hv
    intro _
    exact Resolve_none (fun b o h => hw b o (by rw [u0_no]; exact hu b o h)) h s
  simp (maxSteps := 2000000) only [retS, List.getElem?_cons_zero, List.getElem?_cons_succ, show ((2 : Int) != 0) = true from rfl, vc_skip, vc_ret, vc_exit, vc_seq, vc_block, vc_scope, scopeQ_n, scopeQ_r, scopeQ_e, vc_rg, vc_rgq, vc_rga, vc_ite, thenQ_n, thenQ_r, thenQ_e, blockQ_n, blockQ_r, blockQ_e, kKeep_eq, loopQ_r, loopQ_e, loopQ_n, finQ_r, finQ_n, segs_nil, segs_n, segs_g, ops_nil, ops_cons, qsegs_nil, qsegs_n, qsegs_g, qops_nil, qops_cons, ot_done, ot_op, ot_or, ot_held, oh_done, oh_op, oh_or, oh_first, oh_firstg, heldC_eq, heldF_eq, heldOk, heldK, ldH, heldM_self, heldM_one, heldM_two, heldM_three, List.contains_cons, List.contains_nil, Bool.or_false, Bool.or_true, Bool.true_or, Bool.false_or, vcqOp, vcOp, isRd, RO.isGh, skip_mk, skipL, ev, evL, gvL, scL, look, updL, put_mk, put_mk0, keep_mk, keepL, rowE, rowD, bndN, binV, binC, unV, GV.getT, GV.fld, GV.sz, GV.same, GV.setT, Value.oneCell', cond_true, cond_false, Nat.reduceEqDiff, Nat.reduceAdd, Nat.reduceMul, Nat.reduceSub, Nat.reduceBEq, Nat.reduceLeDiff, ↓reduceIte, reduceCtorEq, List.nil_append, List.cons_append, List.append_nil, Nat.zero_add, Nat.add_zero, Bool.and_true, Bool.true_and, Bool.not_true, Bool.not_false, BEq.rfl, decide_true, decide_false, true_and, and_true, initF, initP, List.map_cons, List.map_nil, Option.map_some, szAll, List.length_cons, List.length_nil, finW_r, finW_n, resL, resOne, Option.bind_some, true_imp_iff, false_imp_iff, Bool.true_eq_false, Bool.false_eq_true, Int.toNat_natCast, Int.reduceToNat, Int.reduceLE, Int.reduceLT, Int.reduceAdd, Int.reduceSub, Int.reduceEq, decide_eq_true_eq, decide_eq_false_iff_not, kill, SV.mentions, ne_eq, not_false_eq_true, not_true_eq_false, List.drop_zero, List.take_succ_cons, List.take_zero, dOk, ↓br_tt, ↓br_ff, ↓br_tf, ↓br_ft, br_t, br_f, Bool.bne_false, Bool.bne_true, GV.bldT, GV.bldC, gVec_get, gVec_set, gVec_arr, gVec_fits, gVec_sz, gVec_sameT, gVec_zero, gVec_isS, gVec2_get, gVec2_arr, gVec2_fits, gVec2_sz, gVec2_sameT, gVec2_zero, gVec2_set, same_int, getT_nil, setT_nil, getD_gi, List.length_map, fits_s, fits_c, fits_ar, arr_ar, get_nil, mkS_size, getD_gN, getD_gb, mkS_at, mkS_e0, mkS_e46, mkS_e4646, mkS_e47, mkS_ext, List.length_map]
end

theorem PathNone_spec (w : World) (s : ByteArray) (n : Int) (u : PH) (hu : u.le w) (hG : GlobI u) : Spec Tryd.prog f_law20_PathNone [.string s, .int .i64 n] PH.no w fun rs _ => rs = [.s (.bool true)] := by
  refine spec_val k_law20_PathNone (Qf := fun rs => rs = [.s (.bool true)]) [.g (.s (.string s)), .g (.s (.int .i64 n))] (by simp) (by simp [AV.ok, GV.ok, Value.oneCell']) ?_
  simp (maxSteps := 2000000) only [c_law20_PathNone, vc_skip, vc_ret, vc_exit, vc_seq, vc_block, vc_scope, scopeQ_n, scopeQ_r, scopeQ_e, vc_rg, vc_rgq, vc_rga, vc_ite, thenQ_n, thenQ_r, thenQ_e, blockQ_n, blockQ_r, blockQ_e, kKeep_eq, loopQ_r, loopQ_e, loopQ_n, finQ_r, finQ_n, segs_nil, segs_n, segs_g, ops_nil, ops_cons, qsegs_nil, qsegs_n, qsegs_g, qops_nil, qops_cons, ot_done, ot_op, ot_or, ot_held, oh_done, oh_op, oh_or, oh_first, oh_firstg, heldC_eq, heldF_eq, heldOk, heldK, ldH, heldM_self, heldM_one, heldM_two, heldM_three, List.contains_cons, List.contains_nil, Bool.or_false, Bool.or_true, Bool.true_or, Bool.false_or, vcqOp, vcOp, isRd, RO.isGh, skip_mk, skipL, ev, evL, gvL, scL, look, updL, put_mk, put_mk0, keep_mk, keepL, rowE, rowD, bndN, binV, binC, unV, GV.getT, GV.fld, GV.sz, GV.same, GV.setT, Value.oneCell', cond_true, cond_false, Nat.reduceEqDiff, Nat.reduceAdd, Nat.reduceMul, Nat.reduceSub, Nat.reduceBEq, Nat.reduceLeDiff, ↓reduceIte, reduceCtorEq, List.nil_append, List.cons_append, List.append_nil, Nat.zero_add, Nat.add_zero, Bool.and_true, Bool.true_and, Bool.not_true, Bool.not_false, BEq.rfl, decide_true, decide_false, true_and, and_true, initF, initP, List.map_cons, List.map_nil, Option.map_some, szAll, List.length_cons, List.length_nil, finW_r, finW_n, resL, resOne, Option.bind_some, true_imp_iff, false_imp_iff, Bool.true_eq_false, Bool.false_eq_true, Int.toNat_natCast, Int.reduceToNat, Int.reduceLE, Int.reduceLT, Int.reduceAdd, Int.reduceSub, Int.reduceEq, decide_eq_true_eq, decide_eq_false_iff_not, kill, SV.mentions, ne_eq, not_false_eq_true, not_true_eq_false, List.drop_zero, List.take_succ_cons, List.take_zero, dOk, ↓br_tt, ↓br_ff, ↓br_tf, ↓br_ft, br_t, br_f, Bool.bne_false, Bool.bne_true, GV.bldT, GV.bldC, gVec_get, gVec_set, gVec_arr, gVec_fits, gVec_sz, gVec_sameT, gVec_zero, gVec_isS, gVec2_get, gVec2_arr, gVec2_fits, gVec2_sz, gVec2_sameT, gVec2_zero, gVec2_set, same_int, getT_nil, setT_nil, getD_gi, List.length_map, fits_s, fits_c, fits_ar, arr_ar, get_nil, mkS_size, getD_gN, getD_gb, mkS_at, mkS_e0, mkS_e46, mkS_e4646, mkS_e47, mkS_ext, List.length_map]
  refine call_is _ [.s (.bool true)] rfl rfl (fun w' vs hv hw => ?_) ?_
  · obtain rfl := argsV_nil hv
    intro _
    exact begun_spec w' u (fun b o hb => hw b o (by rw [u0_no]; exact hu b o hb)) hG
  simp (maxSteps := 2000000) only [retS, vc_skip, vc_ret, vc_exit, vc_seq, vc_block, vc_scope, scopeQ_n, scopeQ_r, scopeQ_e, vc_rg, vc_rgq, vc_rga, vc_ite, thenQ_n, thenQ_r, thenQ_e, blockQ_n, blockQ_r, blockQ_e, kKeep_eq, loopQ_r, loopQ_e, loopQ_n, finQ_r, finQ_n, segs_nil, segs_n, segs_g, ops_nil, ops_cons, qsegs_nil, qsegs_n, qsegs_g, qops_nil, qops_cons, ot_done, ot_op, ot_or, ot_held, oh_done, oh_op, oh_or, oh_first, oh_firstg, heldC_eq, heldF_eq, heldOk, heldK, ldH, heldM_self, heldM_one, heldM_two, heldM_three, List.contains_cons, List.contains_nil, Bool.or_false, Bool.or_true, Bool.true_or, Bool.false_or, vcqOp, vcOp, isRd, RO.isGh, skip_mk, skipL, ev, evL, gvL, scL, look, updL, put_mk, put_mk0, keep_mk, keepL, rowE, rowD, bndN, binV, binC, unV, GV.getT, GV.fld, GV.sz, GV.same, GV.setT, Value.oneCell', cond_true, cond_false, Nat.reduceEqDiff, Nat.reduceAdd, Nat.reduceMul, Nat.reduceSub, Nat.reduceBEq, Nat.reduceLeDiff, ↓reduceIte, reduceCtorEq, List.nil_append, List.cons_append, List.append_nil, Nat.zero_add, Nat.add_zero, Bool.and_true, Bool.true_and, Bool.not_true, Bool.not_false, BEq.rfl, decide_true, decide_false, true_and, and_true, initF, initP, List.map_cons, List.map_nil, Option.map_some, szAll, List.length_cons, List.length_nil, finW_r, finW_n, resL, resOne, Option.bind_some, true_imp_iff, false_imp_iff, Bool.true_eq_false, Bool.false_eq_true, Int.toNat_natCast, Int.reduceToNat, Int.reduceLE, Int.reduceLT, Int.reduceAdd, Int.reduceSub, Int.reduceEq, decide_eq_true_eq, decide_eq_false_iff_not, kill, SV.mentions, ne_eq, not_false_eq_true, not_true_eq_false, List.drop_zero, List.take_succ_cons, List.take_zero, dOk, ↓br_tt, ↓br_ff, ↓br_tf, ↓br_ft, br_t, br_f, Bool.bne_false, Bool.bne_true, GV.bldT, GV.bldC, gVec_get, gVec_set, gVec_arr, gVec_fits, gVec_sz, gVec_sameT, gVec_zero, gVec_isS, gVec2_get, gVec2_arr, gVec2_fits, gVec2_sz, gVec2_sameT, gVec2_zero, gVec2_set, same_int, getT_nil, setT_nil, getD_gi, List.length_map, fits_s, fits_c, fits_ar, arr_ar, get_nil, mkS_size, getD_gN, getD_gb, mkS_at, mkS_e0, mkS_e46, mkS_e4646, mkS_e47, mkS_ext, List.length_map]
  refine gh_pubBox 18 18 rfl rfl fun v u2 hv hp hd => ?_
  obtain ⟨hok, b, e, rfl, rfl⟩ := hp
  simp (maxSteps := 2000000) only [dropK, vc_skip, vc_ret, vc_exit, vc_seq, vc_block, vc_scope, scopeQ_n, scopeQ_r, scopeQ_e, vc_rg, vc_rgq, vc_rga, vc_ite, thenQ_n, thenQ_r, thenQ_e, blockQ_n, blockQ_r, blockQ_e, kKeep_eq, loopQ_r, loopQ_e, loopQ_n, finQ_r, finQ_n, segs_nil, segs_n, segs_g, ops_nil, ops_cons, qsegs_nil, qsegs_n, qsegs_g, qops_nil, qops_cons, ot_done, ot_op, ot_or, ot_held, oh_done, oh_op, oh_or, oh_first, oh_firstg, heldC_eq, heldF_eq, heldOk, heldK, ldH, heldM_self, heldM_one, heldM_two, heldM_three, List.contains_cons, List.contains_nil, Bool.or_false, Bool.or_true, Bool.true_or, Bool.false_or, vcqOp, vcOp, isRd, RO.isGh, skip_mk, skipL, ev, evL, gvL, scL, look, updL, put_mk, put_mk0, keep_mk, keepL, rowE, rowD, bndN, binV, binC, unV, GV.getT, GV.fld, GV.sz, GV.same, GV.setT, Value.oneCell', cond_true, cond_false, Nat.reduceEqDiff, Nat.reduceAdd, Nat.reduceMul, Nat.reduceSub, Nat.reduceBEq, Nat.reduceLeDiff, ↓reduceIte, reduceCtorEq, List.nil_append, List.cons_append, List.append_nil, Nat.zero_add, Nat.add_zero, Bool.and_true, Bool.true_and, Bool.not_true, Bool.not_false, BEq.rfl, decide_true, decide_false, true_and, and_true, initF, initP, List.map_cons, List.map_nil, Option.map_some, szAll, List.length_cons, List.length_nil, finW_r, finW_n, resL, resOne, Option.bind_some, true_imp_iff, false_imp_iff, Bool.true_eq_false, Bool.false_eq_true, Int.toNat_natCast, Int.reduceToNat, Int.reduceLE, Int.reduceLT, Int.reduceAdd, Int.reduceSub, Int.reduceEq, decide_eq_true_eq, decide_eq_false_iff_not, kill, SV.mentions, ne_eq, not_false_eq_true, not_true_eq_false, List.drop_zero, List.take_succ_cons, List.take_zero, dOk, ↓br_tt, ↓br_ff, ↓br_tf, ↓br_ft, br_t, br_f, Bool.bne_false, Bool.bne_true, GV.bldT, GV.bldC, gVec_get, gVec_set, gVec_arr, gVec_fits, gVec_sz, gVec_sameT, gVec_zero, gVec_isS, gVec2_get, gVec2_arr, gVec2_fits, gVec2_sz, gVec2_sameT, gVec2_zero, gVec2_set, same_int, getT_nil, setT_nil, getD_gi, List.length_map, fits_s, fits_c, fits_ar, arr_ar, get_nil, mkS_size, getD_gN, getD_gb, mkS_at, mkS_e0, mkS_e46, mkS_e4646, mkS_e47, mkS_ext, List.length_map]
  generalize hM : uni (one b (Obj.cells _ e (0, 0))) PH.no = M
  have hb0 : NoneT M (ptr b) := .inr ⟨b, e, rfl, by rw [← hM]; simp [uni, one, GV.flat]⟩
  refine vc_loop (ι := Nat) (fun i => ⟨[(0, .g (.s (.string (s)))), (1, .g (.s (.int .i64 (n)))), (19, .row 19 0 (2)), (20, .g (.s (.int .i64 (2)))), (21, .g (.s (.int .i64 (i))))], [(19, .row 23 1 (.s (.pointer none)) [.s (.pointer none), .s (.pointer (some ⟨b, 0, none⟩))])], [], M⟩) (fun i => i ≤ 2) (fun i => 2 - i) 0 (by omega) (ge_of ?_ ?_ rfl rfl rfl) ?_
  · simp [frIn, look]
  · simp [pvIn, look]
  intro i hi
  generalize hQ : loopQ _ _ _ _ _ = Q
  simp (maxSteps := 2000000) only [c_law20_PathNone_L0, vc_skip, vc_ret, vc_exit, vc_seq, vc_block, vc_scope, scopeQ_n, scopeQ_r, scopeQ_e, vc_rg, vc_rgq, vc_rga, vc_ite, thenQ_n, thenQ_r, thenQ_e, blockQ_n, blockQ_r, blockQ_e, kKeep_eq, loopQ_r, loopQ_e, loopQ_n, finQ_r, finQ_n, segs_nil, segs_n, segs_g, ops_nil, ops_cons, qsegs_nil, qsegs_n, qsegs_g, qops_nil, qops_cons, ot_done, ot_op, ot_or, ot_held, oh_done, oh_op, oh_or, oh_first, oh_firstg, heldC_eq, heldF_eq, heldOk, heldK, ldH, heldM_self, heldM_one, heldM_two, heldM_three, List.contains_cons, List.contains_nil, Bool.or_false, Bool.or_true, Bool.true_or, Bool.false_or, vcqOp, vcOp, isRd, RO.isGh, skip_mk, skipL, ev, evL, gvL, scL, look, updL, put_mk, put_mk0, keep_mk, keepL, rowE, rowD, bndN, binV, binC, unV, GV.getT, GV.fld, GV.sz, GV.same, GV.setT, Value.oneCell', cond_true, cond_false, Nat.reduceEqDiff, Nat.reduceAdd, Nat.reduceMul, Nat.reduceSub, Nat.reduceBEq, Nat.reduceLeDiff, ↓reduceIte, reduceCtorEq, List.nil_append, List.cons_append, List.append_nil, Nat.zero_add, Nat.add_zero, Bool.and_true, Bool.true_and, Bool.not_true, Bool.not_false, BEq.rfl, decide_true, decide_false, true_and, and_true, initF, initP, List.map_cons, List.map_nil, Option.map_some, szAll, List.length_cons, List.length_nil, finW_r, finW_n, resL, resOne, Option.bind_some, true_imp_iff, false_imp_iff, Bool.true_eq_false, Bool.false_eq_true, Int.toNat_natCast, Int.reduceToNat, Int.reduceLE, Int.reduceLT, Int.reduceAdd, Int.reduceSub, Int.reduceEq, decide_eq_true_eq, decide_eq_false_iff_not, kill, SV.mentions, ne_eq, not_false_eq_true, not_true_eq_false, List.drop_zero, List.take_succ_cons, List.take_zero, dOk, ↓br_tt, ↓br_ff, ↓br_tf, ↓br_ft, br_t, br_f, Bool.bne_false, Bool.bne_true, GV.bldT, GV.bldC, gVec_get, gVec_set, gVec_arr, gVec_fits, gVec_sz, gVec_sameT, gVec_zero, gVec_isS, gVec2_get, gVec2_arr, gVec2_fits, gVec2_sz, gVec2_sameT, gVec2_zero, gVec2_set, same_int, getT_nil, setT_nil, getD_gi, List.length_map, fits_s, fits_c, fits_ar, arr_ar, get_nil, mkS_size, getD_gN, getD_gb, mkS_at, mkS_e0, mkS_e46, mkS_e4646, mkS_e47, mkS_ext, List.length_map]
  refine ⟨fun hlt => ⟨⟨by omega, by omega⟩, ?_⟩, fun hge => ?_⟩
  · obtain ⟨v, hv, hvn⟩ : ∃ v, ([GV.s (.pointer none), .s (.pointer (some ⟨b, 0, none⟩))] : List GV).getD i (.s (.pointer none)) = .s v ∧ NoneT M v := by
      match i, hlt with
      | 0, _ => exact ⟨_, rfl, .inl rfl⟩
      | 1, _ => exact ⟨_, rfl, hb0⟩
      | i + 2, h => omega
    rw [hv]
    have hv1 := hvn.one
    refine ⟨rfl, ?_⟩
    refine call_ism _ [.s (.int .i64 0), .s (.int .i64 2)] rfl rfl (fun w' vs hv _ _ hm => ?_) ?_
    · obtain ⟨vs, rfl, _, hv⟩ := argsV_g hv
      obtain ⟨vs, rfl, _, hv⟩ := argsV_g hv
      obtain rfl := argsV_nil hv
      exact Resolve_none hm hvn s
    simp (maxSteps := 2000000) only [retS, List.getElem?_cons_zero, List.getElem?_cons_succ, vc_skip, vc_ret, vc_exit, vc_seq, vc_block, vc_scope, scopeQ_n, scopeQ_r, scopeQ_e, vc_rg, vc_rgq, vc_rga, vc_ite, thenQ_n, thenQ_r, thenQ_e, blockQ_n, blockQ_r, blockQ_e, kKeep_eq, loopQ_r, loopQ_e, loopQ_n, finQ_r, finQ_n, segs_nil, segs_n, segs_g, ops_nil, ops_cons, qsegs_nil, qsegs_n, qsegs_g, qops_nil, qops_cons, ot_done, ot_op, ot_or, ot_held, oh_done, oh_op, oh_or, oh_first, oh_firstg, heldC_eq, heldF_eq, heldOk, heldK, ldH, heldM_self, heldM_one, heldM_two, heldM_three, List.contains_cons, List.contains_nil, Bool.or_false, Bool.or_true, Bool.true_or, Bool.false_or, vcqOp, vcOp, isRd, RO.isGh, skip_mk, skipL, ev, evL, gvL, scL, look, updL, put_mk, put_mk0, keep_mk, keepL, rowE, rowD, bndN, binV, binC, unV, GV.getT, GV.fld, GV.sz, GV.same, GV.setT, Value.oneCell', cond_true, cond_false, Nat.reduceEqDiff, Nat.reduceAdd, Nat.reduceMul, Nat.reduceSub, Nat.reduceBEq, Nat.reduceLeDiff, ↓reduceIte, reduceCtorEq, List.nil_append, List.cons_append, List.append_nil, Nat.zero_add, Nat.add_zero, Bool.and_true, Bool.true_and, Bool.not_true, Bool.not_false, BEq.rfl, decide_true, decide_false, true_and, and_true, initF, initP, List.map_cons, List.map_nil, Option.map_some, szAll, List.length_cons, List.length_nil, finW_r, finW_n, resL, resOne, Option.bind_some, true_imp_iff, false_imp_iff, Bool.true_eq_false, Bool.false_eq_true, Int.toNat_natCast, Int.reduceToNat, Int.reduceLE, Int.reduceLT, Int.reduceAdd, Int.reduceSub, Int.reduceEq, decide_eq_true_eq, decide_eq_false_iff_not, kill, SV.mentions, ne_eq, not_false_eq_true, not_true_eq_false, List.drop_zero, List.take_succ_cons, List.take_zero, dOk, ↓br_tt, ↓br_ff, ↓br_tf, ↓br_ft, br_t, br_f, Bool.bne_false, Bool.bne_true, GV.bldT, GV.bldC, gVec_get, gVec_set, gVec_arr, gVec_fits, gVec_sz, gVec_sameT, gVec_zero, gVec_isS, gVec2_get, gVec2_arr, gVec2_fits, gVec2_sz, gVec2_sameT, gVec2_zero, gVec2_set, same_int, getT_nil, setT_nil, getD_gi, List.length_map, fits_s, fits_c, fits_ar, arr_ar, get_nil, mkS_size, getD_gN, getD_gb, mkS_at, mkS_e0, mkS_e46, mkS_e4646, mkS_e47, mkS_ext, List.length_map]
    refine call_ism _ [.s (.string ⟨#[]⟩), .s (.int .i64 2)] rfl rfl (fun w' vs hv _ _ hm => ?_) ?_
    · obtain ⟨vs, rfl, _, hv⟩ := argsV_g hv
      obtain ⟨vs, rfl, _, hv⟩ := argsV_g hv
      obtain rfl := argsV_nil hv
      exact Of_none hm hvn n
    simp (maxSteps := 2000000) only [retS, List.getElem?_cons_zero, List.getElem?_cons_succ, vc_skip, vc_ret, vc_exit, vc_seq, vc_block, vc_scope, scopeQ_n, scopeQ_r, scopeQ_e, vc_rg, vc_rgq, vc_rga, vc_ite, thenQ_n, thenQ_r, thenQ_e, blockQ_n, blockQ_r, blockQ_e, kKeep_eq, loopQ_r, loopQ_e, loopQ_n, finQ_r, finQ_n, segs_nil, segs_n, segs_g, ops_nil, ops_cons, qsegs_nil, qsegs_n, qsegs_g, qops_nil, qops_cons, ot_done, ot_op, ot_or, ot_held, oh_done, oh_op, oh_or, oh_first, oh_firstg, heldC_eq, heldF_eq, heldOk, heldK, ldH, heldM_self, heldM_one, heldM_two, heldM_three, List.contains_cons, List.contains_nil, Bool.or_false, Bool.or_true, Bool.true_or, Bool.false_or, vcqOp, vcOp, isRd, RO.isGh, skip_mk, skipL, ev, evL, gvL, scL, look, updL, put_mk, put_mk0, keep_mk, keepL, rowE, rowD, bndN, binV, binC, unV, GV.getT, GV.fld, GV.sz, GV.same, GV.setT, Value.oneCell', cond_true, cond_false, Nat.reduceEqDiff, Nat.reduceAdd, Nat.reduceMul, Nat.reduceSub, Nat.reduceBEq, Nat.reduceLeDiff, ↓reduceIte, reduceCtorEq, List.nil_append, List.cons_append, List.append_nil, Nat.zero_add, Nat.add_zero, Bool.and_true, Bool.true_and, Bool.not_true, Bool.not_false, BEq.rfl, decide_true, decide_false, true_and, and_true, initF, initP, List.map_cons, List.map_nil, Option.map_some, szAll, List.length_cons, List.length_nil, finW_r, finW_n, resL, resOne, Option.bind_some, true_imp_iff, false_imp_iff, Bool.true_eq_false, Bool.false_eq_true, Int.toNat_natCast, Int.reduceToNat, Int.reduceLE, Int.reduceLT, Int.reduceAdd, Int.reduceSub, Int.reduceEq, decide_eq_true_eq, decide_eq_false_iff_not, kill, SV.mentions, ne_eq, not_false_eq_true, not_true_eq_false, List.drop_zero, List.take_succ_cons, List.take_zero, dOk, ↓br_tt, ↓br_ff, ↓br_tf, ↓br_ft, br_t, br_f, Bool.bne_false, Bool.bne_true, GV.bldT, GV.bldC, gVec_get, gVec_set, gVec_arr, gVec_fits, gVec_sz, gVec_sameT, gVec_zero, gVec_isS, gVec2_get, gVec2_arr, gVec2_fits, gVec2_sz, gVec2_sameT, gVec2_zero, gVec2_set, same_int, getT_nil, setT_nil, getD_gi, List.length_map, fits_s, fits_c, fits_ar, arr_ar, get_nil, mkS_size, getD_gN, getD_gb, mkS_at, mkS_e0, mkS_e46, mkS_e4646, mkS_e47, mkS_ext, List.length_map]
    refine call_ism _ [.s (.slice none 0 0), .s (.int .i64 2)] rfl rfl (fun w' vs hv _ _ hm => ?_) ?_
    · obtain ⟨vs, rfl, _, hv⟩ := argsV_g hv
      obtain ⟨vs, rfl, _, hv⟩ := argsV_g hv
      obtain rfl := argsV_nil hv
      exact List_none hm hvn s
    simp (maxSteps := 2000000) only [retS, List.getElem?_cons_zero, List.getElem?_cons_succ, vc_skip, vc_ret, vc_exit, vc_seq, vc_block, vc_scope, scopeQ_n, scopeQ_r, scopeQ_e, vc_rg, vc_rgq, vc_rga, vc_ite, thenQ_n, thenQ_r, thenQ_e, blockQ_n, blockQ_r, blockQ_e, kKeep_eq, loopQ_r, loopQ_e, loopQ_n, finQ_r, finQ_n, segs_nil, segs_n, segs_g, ops_nil, ops_cons, qsegs_nil, qsegs_n, qsegs_g, qops_nil, qops_cons, ot_done, ot_op, ot_or, ot_held, oh_done, oh_op, oh_or, oh_first, oh_firstg, heldC_eq, heldF_eq, heldOk, heldK, ldH, heldM_self, heldM_one, heldM_two, heldM_three, List.contains_cons, List.contains_nil, Bool.or_false, Bool.or_true, Bool.true_or, Bool.false_or, vcqOp, vcOp, isRd, RO.isGh, skip_mk, skipL, ev, evL, gvL, scL, look, updL, put_mk, put_mk0, keep_mk, keepL, rowE, rowD, bndN, binV, binC, unV, GV.getT, GV.fld, GV.sz, GV.same, GV.setT, Value.oneCell', cond_true, cond_false, Nat.reduceEqDiff, Nat.reduceAdd, Nat.reduceMul, Nat.reduceSub, Nat.reduceBEq, Nat.reduceLeDiff, ↓reduceIte, reduceCtorEq, List.nil_append, List.cons_append, List.append_nil, Nat.zero_add, Nat.add_zero, Bool.and_true, Bool.true_and, Bool.not_true, Bool.not_false, BEq.rfl, decide_true, decide_false, true_and, and_true, initF, initP, List.map_cons, List.map_nil, Option.map_some, szAll, List.length_cons, List.length_nil, finW_r, finW_n, resL, resOne, Option.bind_some, true_imp_iff, false_imp_iff, Bool.true_eq_false, Bool.false_eq_true, Int.toNat_natCast, Int.reduceToNat, Int.reduceLE, Int.reduceLT, Int.reduceAdd, Int.reduceSub, Int.reduceEq, decide_eq_true_eq, decide_eq_false_iff_not, kill, SV.mentions, ne_eq, not_false_eq_true, not_true_eq_false, List.drop_zero, List.take_succ_cons, List.take_zero, dOk, ↓br_tt, ↓br_ff, ↓br_tf, ↓br_ft, br_t, br_f, Bool.bne_false, Bool.bne_true, GV.bldT, GV.bldC, gVec_get, gVec_set, gVec_arr, gVec_fits, gVec_sz, gVec_sameT, gVec_zero, gVec_isS, gVec2_get, gVec2_arr, gVec2_fits, gVec2_sz, gVec2_sameT, gVec2_zero, gVec2_set, same_int, getT_nil, setT_nil, getD_gi, List.length_map, fits_s, fits_c, fits_ar, arr_ar, get_nil, mkS_size, getD_gN, getD_gb, mkS_at, mkS_e0, mkS_e46, mkS_e4646, mkS_e47, mkS_ext, List.length_map]
    refine call_ism _ [.s (.slice none 0 0), .s (.int .i64 2)] rfl rfl (fun w' vs hv _ _ hm => ?_) ?_
    · obtain ⟨vs, rfl, _, hv⟩ := argsV_g hv
      obtain ⟨vs, rfl, _, hv⟩ := argsV_g hv
      obtain rfl := argsV_nil hv
      exact Attrs_none hm hvn s
    simp (maxSteps := 2000000) only [retS, List.getElem?_cons_zero, List.getElem?_cons_succ, show ((0 : Int) != 0) = false from rfl, show ((2 : Int) != 2) = false from rfl, show (IntKind.i64.wrap (((0 : Nat) : Int) + ((0 : Nat) : Int)) != 0) = false by decide, vc_skip, vc_ret, vc_exit, vc_seq, vc_block, vc_scope, scopeQ_n, scopeQ_r, scopeQ_e, vc_rg, vc_rgq, vc_rga, vc_ite, thenQ_n, thenQ_r, thenQ_e, blockQ_n, blockQ_r, blockQ_e, kKeep_eq, loopQ_r, loopQ_e, loopQ_n, finQ_r, finQ_n, segs_nil, segs_n, segs_g, ops_nil, ops_cons, qsegs_nil, qsegs_n, qsegs_g, qops_nil, qops_cons, ot_done, ot_op, ot_or, ot_held, oh_done, oh_op, oh_or, oh_first, oh_firstg, heldC_eq, heldF_eq, heldOk, heldK, ldH, heldM_self, heldM_one, heldM_two, heldM_three, List.contains_cons, List.contains_nil, Bool.or_false, Bool.or_true, Bool.true_or, Bool.false_or, vcqOp, vcOp, isRd, RO.isGh, skip_mk, skipL, ev, evL, gvL, scL, look, updL, put_mk, put_mk0, keep_mk, keepL, rowE, rowD, bndN, binV, binC, unV, GV.getT, GV.fld, GV.sz, GV.same, GV.setT, Value.oneCell', cond_true, cond_false, Nat.reduceEqDiff, Nat.reduceAdd, Nat.reduceMul, Nat.reduceSub, Nat.reduceBEq, Nat.reduceLeDiff, ↓reduceIte, reduceCtorEq, List.nil_append, List.cons_append, List.append_nil, Nat.zero_add, Nat.add_zero, Bool.and_true, Bool.true_and, Bool.not_true, Bool.not_false, BEq.rfl, decide_true, decide_false, true_and, and_true, initF, initP, List.map_cons, List.map_nil, Option.map_some, szAll, List.length_cons, List.length_nil, finW_r, finW_n, resL, resOne, Option.bind_some, true_imp_iff, false_imp_iff, Bool.true_eq_false, Bool.false_eq_true, Int.toNat_natCast, Int.reduceToNat, Int.reduceLE, Int.reduceLT, Int.reduceAdd, Int.reduceSub, Int.reduceEq, decide_eq_true_eq, decide_eq_false_iff_not, kill, SV.mentions, ne_eq, not_false_eq_true, not_true_eq_false, List.drop_zero, List.take_succ_cons, List.take_zero, dOk, ↓br_tt, ↓br_ff, ↓br_tf, ↓br_ft, br_t, br_f, Bool.bne_false, Bool.bne_true, GV.bldT, GV.bldC, gVec_get, gVec_set, gVec_arr, gVec_fits, gVec_sz, gVec_sameT, gVec_zero, gVec_isS, gVec2_get, gVec2_arr, gVec2_fits, gVec2_sz, gVec2_sameT, gVec2_zero, gVec2_set, same_int, getT_nil, setT_nil, getD_gi, List.length_map, fits_s, fits_c, fits_ar, arr_ar, get_nil, mkS_size, getD_gN, getD_gb, mkS_at, mkS_e0, mkS_e46, mkS_e4646, mkS_e47, mkS_ext, List.length_map]
    subst hQ; simp only [loopQ_n]; refine ⟨i + 1, ?_, ?_, ge_of ?_ ?_ rfl rfl rfl⟩
    · omega
    · omega
    · simp only [frIn, vc_skip, vc_ret, vc_exit, vc_seq, vc_block, vc_scope, scopeQ_n, scopeQ_r, scopeQ_e, vc_rg, vc_rgq, vc_rga, vc_ite, thenQ_n, thenQ_r, thenQ_e, blockQ_n, blockQ_r, blockQ_e, kKeep_eq, loopQ_r, loopQ_e, loopQ_n, finQ_r, finQ_n, segs_nil, segs_n, segs_g, ops_nil, ops_cons, qsegs_nil, qsegs_n, qsegs_g, qops_nil, qops_cons, ot_done, ot_op, ot_or, ot_held, oh_done, oh_op, oh_or, oh_first, oh_firstg, heldC_eq, heldF_eq, heldOk, heldK, ldH, heldM_self, heldM_one, heldM_two, heldM_three, List.contains_cons, List.contains_nil, Bool.or_false, Bool.or_true, Bool.true_or, Bool.false_or, vcqOp, vcOp, isRd, RO.isGh, skip_mk, skipL, ev, evL, gvL, scL, look, updL, put_mk, put_mk0, keep_mk, keepL, rowE, rowD, bndN, binV, binC, unV, GV.getT, GV.fld, GV.sz, GV.same, GV.setT, Value.oneCell', cond_true, cond_false, Nat.reduceEqDiff, Nat.reduceAdd, Nat.reduceMul, Nat.reduceSub, Nat.reduceBEq, Nat.reduceLeDiff, ↓reduceIte, reduceCtorEq, List.nil_append, List.cons_append, List.append_nil, Nat.zero_add, Nat.add_zero, Bool.and_true, Bool.true_and, Bool.not_true, Bool.not_false, BEq.rfl, decide_true, decide_false, true_and, and_true, initF, initP, List.map_cons, List.map_nil, Option.map_some, szAll, List.length_cons, List.length_nil, finW_r, finW_n, resL, resOne, Option.bind_some, true_imp_iff, false_imp_iff, Bool.true_eq_false, Bool.false_eq_true, Int.toNat_natCast, Int.reduceToNat, Int.reduceLE, Int.reduceLT, Int.reduceAdd, Int.reduceSub, Int.reduceEq, decide_eq_true_eq, decide_eq_false_iff_not, kill, SV.mentions, ne_eq, not_false_eq_true, not_true_eq_false, List.drop_zero, List.take_succ_cons, List.take_zero, dOk, ↓br_tt, ↓br_ff, ↓br_tf, ↓br_ft, br_t, br_f, Bool.bne_false, Bool.bne_true, GV.bldT, GV.bldC]
      rw [wrap_n (by omega)]
      try simp
    · simp [pvIn, look]
  · subst hQ
    simp (maxSteps := 2000000) only [vc_skip, vc_ret, vc_exit, vc_seq, vc_block, vc_scope, scopeQ_n, scopeQ_r, scopeQ_e, vc_rg, vc_rgq, vc_rga, vc_ite, thenQ_n, thenQ_r, thenQ_e, blockQ_n, blockQ_r, blockQ_e, kKeep_eq, loopQ_r, loopQ_e, loopQ_n, finQ_r, finQ_n, segs_nil, segs_n, segs_g, ops_nil, ops_cons, qsegs_nil, qsegs_n, qsegs_g, qops_nil, qops_cons, ot_done, ot_op, ot_or, ot_held, oh_done, oh_op, oh_or, oh_first, oh_firstg, heldC_eq, heldF_eq, heldOk, heldK, ldH, heldM_self, heldM_one, heldM_two, heldM_three, List.contains_cons, List.contains_nil, Bool.or_false, Bool.or_true, Bool.true_or, Bool.false_or, vcqOp, vcOp, isRd, RO.isGh, skip_mk, skipL, ev, evL, gvL, scL, look, updL, put_mk, put_mk0, keep_mk, keepL, rowE, rowD, bndN, binV, binC, unV, GV.getT, GV.fld, GV.sz, GV.same, GV.setT, Value.oneCell', cond_true, cond_false, Nat.reduceEqDiff, Nat.reduceAdd, Nat.reduceMul, Nat.reduceSub, Nat.reduceBEq, Nat.reduceLeDiff, ↓reduceIte, reduceCtorEq, List.nil_append, List.cons_append, List.append_nil, Nat.zero_add, Nat.add_zero, Bool.and_true, Bool.true_and, Bool.not_true, Bool.not_false, BEq.rfl, decide_true, decide_false, true_and, and_true, initF, initP, List.map_cons, List.map_nil, Option.map_some, szAll, List.length_cons, List.length_nil, finW_r, finW_n, resL, resOne, Option.bind_some, true_imp_iff, false_imp_iff, Bool.true_eq_false, Bool.false_eq_true, Int.toNat_natCast, Int.reduceToNat, Int.reduceLE, Int.reduceLT, Int.reduceAdd, Int.reduceSub, Int.reduceEq, decide_eq_true_eq, decide_eq_false_iff_not, kill, SV.mentions, ne_eq, not_false_eq_true, not_true_eq_false, List.drop_zero, List.take_succ_cons, List.take_zero, dOk, ↓br_tt, ↓br_ff, ↓br_tf, ↓br_ft, br_t, br_f, Bool.bne_false, Bool.bne_true, GV.bldT, GV.bldC, gVec_get, gVec_set, gVec_arr, gVec_fits, gVec_sz, gVec_sameT, gVec_zero, gVec_isS, gVec2_get, gVec2_arr, gVec2_fits, gVec2_sz, gVec2_sameT, gVec2_zero, gVec2_set, same_int, getT_nil, setT_nil, getD_gi, List.length_map, fits_s, fits_c, fits_ar, arr_ar, get_nil, mkS_size, getD_gN, getD_gb, mkS_at, mkS_e0, mkS_e46, mkS_e4646, mkS_e47, mkS_ext, List.length_map]
end Go.Proofs.YtnoeabmpdjpfaaaDoor.Vc

/- From what a call computes to the row of a law that answers true and leaves its arguments as they were. -/
set_option linter.unusedVariables false
set_option linter.unusedSimpArgs false
namespace Go.Proofs.YtnoeabmpdjpfaaaDoor.Vc
open Go Go.ChangeShapes Go.WideShapes Go.ChangeAt Go.WideElems

section
variable {H : Type} {enc : TypeId × Value → H} {P : Program} {W W' : World}

theorem Kept.old (h : Kept PH.no W W') {k : Nat} (hk : k < W.heap.size) : W'.heap[k]? = W.heap[k]? := h.2.2.2.2 k hk rfl

theorem Kept.but (h : Kept PH.no W W') (may : MemPlace → Prop) : W.keptBut W' may := by
  refine ⟨h.1, h.2.2.1, fun i hi => ?_⟩
  rw [h.old hi]
  cases W.heap[i]? with
  | none => rfl
  | some o => cases o <;> first | exact ⟨rfl, rfl, rfl, fun _ _ => rfl⟩ | exact .inr ⟨rfl, rfl⟩ | rfl

theorem Kept.at (h : Kept PH.no W W') {p : MemPlace} (hp : p.block < W.heap.size) : W.sameAt W' p := by
  cases p with
  | cell b off =>
    show W'.cell? _ = W.cell? _
    have e : W'.heap[b]? = W.heap[b]? := h.old hp
    unfold World.cell?
    simp only [e]
  | map b => exact h.old hp

theorem trodAll_stays (hl : laidOutB P = true) {sp' : Nat → Bool} : ∀ {ts : List TypeId} {vs : List Value} {ds : List (DataW H)} {ps : List MemPlace}, (∀ t ∈ ts, P.readableRec t = true ∧ t < P.types.size) →
    DataW.TrodAll enc P W 0 (fun _ => true) true ts vs ds ps → (∀ p ∈ ps, W.sameAt W' p) → (∀ p ∈ ps, sp' p.block = true) → DataW.TrodAll enc P W' 0 sp' true ts vs ds ps
  | [], vs, ds, ps, _, h, _, _ => by
    obtain ⟨rfl, rfl, rfl⟩ := trodAll_nil h
    exact rfl
  | t :: ts, vs, ds, ps, hr, h, h1, h2 => by
    obtain ⟨v, vs', d, ds', p, q, rfl, rfl, rfl, h3, h4⟩ := trodAll_cons h
    exact ⟨p, q, Trod_stays hl (hr t (by simp)).1 (hr t (by simp)).2 h3 (fun x hx => h1 x (by simp [hx])) (fun x hx => h2 x (by simp [hx])),
      trodAll_stays hl (fun t ht => hr t (by simp [ht])) h4 (fun x hx => h1 x (by simp [hx])) (fun x hx => h2 x (by simp [hx])), rfl⟩

theorem contract_true {f : Nat} {fn : Func} {s : ChangeSpec} {apart fresh handsOn again : Bool} {args : Array Value} {ds gs : List (DataW H)} {before : List MemPlace} {tb : TypeId} (hl : laidOutB P = true)
    (hr : (fn.params.toList.all fun t => P.readableRec t && decide (t < P.types.size)) = true) (hv : s.vars = []) (hres : fn.resultTypes = #[tb]) (htb : P.underlying tb = some .bool)
    (hs : s.fn H (ds ++ gs) = { results := [.lit (.bool true)], args := ds }) (hW : DataW.Whole enc P fn.params.toList s.vars apart W args.toList ds gs before)
    (h : Spec P f args.toList PH.no W fun rs _ => rs = [.s (.bool true)]) :
    Calls P f args W fun e W' => ∃ v, e = .returned v ∧ s.post enc P fn apart fresh handsOn again W args v W' ∧ W.keptBut W' (fun _ => False) := by
  have h0 := h (fun _ _ e => by cases e)
  rw [show args.toList.toArray = args by simp] at h0
  refine h0.mono fun e W' he => ?_
  obtain ⟨rs, m', rfl, _, rfl, _, _, hk⟩ := he
  refine ⟨.bool true, rfl, ?_, hk.but _⟩
  have hW0 := hW
  obtain ⟨p, q, hA, hV, rfl, hfz, hnd⟩ := hW
  rw [hv] at hV
  obtain ⟨rfl, rfl⟩ := trodVars_none hV
  simp only [List.append_nil] at *
  have hall : ∀ t ∈ fn.params.toList, P.readableRec t = true ∧ t < P.types.size := by
    intro t ht
    have := List.all_eq_true.1 hr t ht
    simpa using this
  have hlt := DataW.TrodAll.lt hA
  have hargs : ∀ sp : Nat → Bool, (∀ x ∈ p, sp x.block = true) → DataW.TrodAll enc P W' 0 sp true fn.params.toList args.toList ds p := fun sp hsp =>
    trodAll_stays hl hall hA (fun x hx => hk.at (hlt x hx)) hsp
  have hbool : ∀ (b : Nat) (sp : Nat → Bool) (hd : Bool), DataW.TrodAll enc P W' b sp hd fn.resultTypes.toList ((Value.bool true).resultList fn.resultTypes.size) [.lit (.bool true)] [] := by
    intro b sp hd
    rw [hres]
    exact ⟨[], [], ⟨1, by simp [DataW.trod, htb, Value.cells]⟩, rfl, rfl⟩
  have hcell : ∀ x ∈ p, x.block < W.heap.size := hlt
  refine ⟨ds, [], p, [], p, [], by simpa using hW0, by rw [List.append_nil, hs]; exact hbool _ _ _, by rw [List.append_nil, hs]; exact hargs _ (fun x hx => by simpa using hlt x hx), by rw [hv]; rw [List.append_nil, hs]; exact rfl, hk.but _, fun _ => ⟨?_, ?_⟩⟩
  · intro j t r hj hr'
    rw [hres] at hj hr'
    match j, hj, hr' with
    | 0, hj, hr' =>
      simp [Value.resultList] at hj hr'
      subst hj; subst hr'
      simp [Value.okWide, htb, Cell.okWide, Cell.ok]
  · refine ⟨_, [], p, ⟨[] ++ p, [], trodAll_append (hargs _ (fun _ _ => rfl)) (hbool _ _ _), by rw [hv]; exact rfl, by simp, ?_, fun ha => by simpa using hnd ha⟩, fun x hx _ => hx⟩
    intro b off hp
    have := hfz b off hp
    unfold World.frozen? at this ⊢
    have e : W'.heap[b]? = W.heap[b]? := hk.old (hlt _ hp)
    simp only [e]
    exact this

end

end Go.Proofs.YtnoeabmpdjpfaaaDoor.Vc

/- What a law's arguments are: plain values, cell by cell. -/
set_option linter.unusedVariables false
set_option linter.unusedSimpArgs false
namespace Go.Proofs.YtnoeabmpdjpfaaaDoor.Vc
open Go

/-- A plain cell's kind. -/
inductive K1 where
  | i (k : IntKind)
  | s
  | b
  | sl (t : TypeId)

def kOf (P : Program) (u : TypeId) : Option K1 := match P.underlying u with
  | some (.int k) => some (.i k)
  | some .string => some .s
  | some .bool => some .b
  | _ => none

def K1.is : K1 → Value → Prop
  | .i k, v => ∃ n, v = .int k n ∧ k.has n
  | .s, v => ∃ s, v = .string s ∧ (s.size : Int) ≤ IntKind.i64.max
  | .b, v => ∃ b, v = .bool b
  | .sl _, v => ∃ a n c, v = .slice a n c

/-- A plain value's content. -/
structure Raw where
  x : Nat → Int
  y : Nat → ByteArray
  z : Nat → Bool
  v : Nat → Value

def Raw.at (r : Raw) (i : Nat) : K1 → Value
  | .i k => .int k (r.x i)
  | .s => .string (r.y i)
  | .b => .bool (r.z i)
  | .sl _ => r.v i

def Raw.cells (r : Raw) : List K1 → Nat → List Value
  | [], _ => []
  | k :: l, i => r.at i k :: r.cells l (i + 1)

/-- Its numbers are numbers of their kind. -/
def Raw.fine (r : Raw) : List K1 → Nat → Prop
  | [], _ => True
  | k :: l, i => (match k with | .i k => k.has (r.x i) | .s => ((r.y i).size : Int) ≤ IntKind.i64.max | .b => True | .sl _ => ∃ a n c, r.v i = .slice a n c) ∧ r.fine l (i + 1)

theorem raw_of : ∀ (ks : List K1) (i : Nat) (cs : List Value), cs.length = ks.length → (∀ (j : Nat) (v : Value) (k : K1), cs[j]? = some v → ks[j]? = some k → k.is v) → ∃ r : Raw, cs = r.cells ks i ∧ r.fine ks i
  | [], i, cs, hl, _ => by
    have : cs = [] := by simpa using hl
    subst this
    exact ⟨⟨fun _ => 0, fun _ => ⟨#[]⟩, fun _ => false, fun _ => undef⟩, rfl, trivial⟩
  | k :: ks, i, cs, hl, h => by
    cases cs with
    | nil => simp at hl
    | cons v cs =>
      obtain ⟨r, hr, hf⟩ := raw_of ks (i + 1) cs (by simpa using hl) (fun j v k hj hk => h (j + 1) v k (by simpa using hj) (by simpa using hk))
      have h0 := h 0 v k rfl rfl
      have key : ∀ (r' : Raw), (∀ j, i < j → r'.x j = r.x j ∧ r'.y j = r.y j ∧ r'.z j = r.z j ∧ r'.v j = r.v j) → (∀ l m, i < m → r'.cells l m = r.cells l m) ∧ (∀ l m, i < m → (r'.fine l m ↔ r.fine l m)) := by
        intro r' hs
        constructor
        · intro l
          induction l with
          | nil => intro m _; rfl
          | cons q l ih =>
            intro m hm
            obtain ⟨e1, e2, e3, e4⟩ := hs m hm
            simp only [Raw.cells, ih (m + 1) (by omega)]
            congr 1
            cases q <;> simp [Raw.at, e1, e2, e3, e4]
        · intro l
          induction l with
          | nil => intro m _; exact Iff.rfl
          | cons q l ih =>
            intro m hm
            obtain ⟨e1, e2, e3, e4⟩ := hs m hm
            simp only [Raw.fine, ih (m + 1) (by omega), e1, e2, e4]
      cases k with
      | i k =>
        obtain ⟨n, rfl, hn⟩ := h0
        refine ⟨⟨fun j => if j = i then n else r.x j, r.y, r.z, r.v⟩, ?_, ?_⟩
        · obtain ⟨g1, g2⟩ := key ⟨fun j => if j = i then n else r.x j, r.y, r.z, r.v⟩ (fun j hj => ⟨by simp; omega, rfl, rfl, rfl⟩)
          simp only [Raw.cells, g1 ks (i + 1) (by omega), ← hr, Raw.at, if_true]
        · obtain ⟨g1, g2⟩ := key ⟨fun j => if j = i then n else r.x j, r.y, r.z, r.v⟩ (fun j hj => ⟨by simp; omega, rfl, rfl, rfl⟩)
          exact ⟨by simpa using hn, (g2 ks (i + 1) (by omega)).2 hf⟩
      | s =>
        obtain ⟨n, rfl, hn⟩ := h0
        refine ⟨⟨r.x, fun j => if j = i then n else r.y j, r.z, r.v⟩, ?_, ?_⟩
        · obtain ⟨g1, g2⟩ := key ⟨r.x, fun j => if j = i then n else r.y j, r.z, r.v⟩ (fun j hj => ⟨rfl, by simp; omega, rfl, rfl⟩)
          simp only [Raw.cells, g1 ks (i + 1) (by omega), ← hr, Raw.at, if_true]
        · obtain ⟨g1, g2⟩ := key ⟨r.x, fun j => if j = i then n else r.y j, r.z, r.v⟩ (fun j hj => ⟨rfl, by simp; omega, rfl, rfl⟩)
          exact ⟨by simpa using hn, (g2 ks (i + 1) (by omega)).2 hf⟩
      | b =>
        obtain ⟨n, rfl⟩ := h0
        refine ⟨⟨r.x, r.y, fun j => if j = i then n else r.z j, r.v⟩, ?_, ?_⟩
        · obtain ⟨g1, g2⟩ := key ⟨r.x, r.y, fun j => if j = i then n else r.z j, r.v⟩ (fun j hj => ⟨rfl, rfl, by simp; omega, rfl⟩)
          simp only [Raw.cells, g1 ks (i + 1) (by omega), ← hr, Raw.at, if_true]
        · obtain ⟨g1, g2⟩ := key ⟨r.x, r.y, fun j => if j = i then n else r.z j, r.v⟩ (fun j hj => ⟨rfl, rfl, by simp; omega, rfl⟩)
          exact ⟨trivial, (g2 ks (i + 1) (by omega)).2 hf⟩
      | sl t =>
        obtain ⟨a, n, c, rfl⟩ := h0
        refine ⟨⟨r.x, r.y, r.z, fun j => if j = i then .slice a n c else r.v j⟩, ?_, ?_⟩
        · obtain ⟨g1, g2⟩ := key ⟨r.x, r.y, r.z, fun j => if j = i then .slice a n c else r.v j⟩ (fun j hj => ⟨rfl, rfl, rfl, by simp; omega⟩)
          simp only [Raw.cells, g1 ks (i + 1) (by omega), ← hr, Raw.at, if_true]
        · obtain ⟨g1, g2⟩ := key ⟨r.x, r.y, r.z, fun j => if j = i then .slice a n c else r.v j⟩ (fun j hj => ⟨rfl, rfl, rfl, by simp; omega⟩)
          exact ⟨⟨a, n, c, by simp⟩, (g2 ks (i + 1) (by omega)).2 hf⟩

section
variable {P : Program} {W : World} {r : Reach} {base : Nat} {t : TypeId} {v : Value}

theorem cell_kind {u : TypeId} {k : K1} (hk : kOf P u = some k) (h : Cell.okWide P W r base u v) : k.is v := by
  unfold kOf at hk
  unfold Cell.okWide Cell.ok at h
  cases hu : P.underlying u with
  | none => simp [hu] at hk
  | some d =>
    rw [hu] at hk h
    cases d <;> simp only [Option.some.injEq, reduceCtorEq] at hk <;> subst hk <;> cases v <;> simp only at h <;> first | exact h.elim | skip
    · exact ⟨_, rfl⟩
    · obtain ⟨rfl, h⟩ := h; exact ⟨_, rfl, h⟩
    · exact ⟨_, rfl, h⟩

theorem row_raw {cs : Array Value} {ts : List TypeId} {ks : List K1} (hts : P.cellTypes P.depth t = some ts) (hks : ts.mapM (kOf P) = some ks) (hsz : cs.size = ts.length) (h : Row.okWide P W r base t cs) : ∃ q : Raw, cs = (q.cells ks 0).toArray ∧ q.fine ks 0 := by
  obtain ⟨ts', e, _, h⟩ := h
  rw [hts] at e
  obtain rfl : ts = ts' := by simpa using e
  have hlen : ∀ {l : List TypeId} {m : List K1}, l.mapM (kOf P) = some m → m.length = l.length ∧ ∀ (j : Nat) (u : TypeId) (k : K1), l[j]? = some u → m[j]? = some k → kOf P u = some k := by
    intro l
    induction l with
    | nil => intro m hm; simp at hm; subst hm; exact ⟨rfl, fun j u k h1 => by simp at h1⟩
    | cons a l ih =>
      intro m hm
      simp only [List.mapM_cons, Option.bind_eq_bind, Option.bind_eq_some_iff, Option.pure_def, Option.some.injEq] at hm
      obtain ⟨k0, h1, m', h2, rfl⟩ := hm
      obtain ⟨g1, g2⟩ := ih h2
      refine ⟨by simp [g1], fun j u k h3 h4 => ?_⟩
      cases j with
      | zero => simp at h3 h4; subst h3; subst h4; exact h1
      | succ j => exact g2 j u k (by simpa using h3) (by simpa using h4)
  obtain ⟨g1, g2⟩ := hlen hks
  obtain ⟨q, hq, hf⟩ := raw_of ks 0 cs.toList (by simp [hsz, g1]) (fun j v k hj hk => by
    have hj' : cs[j]? = some v := by simpa using hj
    have hjlt : j < ts.length := by rw [← hsz]; exact (Array.getElem?_eq_some_iff.1 hj').1
    obtain ⟨u, hu, hc⟩ := h j v hj'
    rw [Nat.mod_eq_of_lt hjlt] at hu
    exact cell_kind (g2 j u k hu hk) hc)
  exact ⟨q, by rw [← hq], hf⟩

def agDo : Option TypeDesc → Bool
  | some (.struct _) | some (.array _ _) => true
  | _ => false

/-- An argument of a struct's or an array's type. -/
theorem open_agg {ts : List TypeId} {ks : List K1} (hu : agDo (P.underlying t) = true) (hts : P.cellTypes P.depth t = some ts) (hks : ts.mapM (kOf P) = some ks) (hsz : P.cellsOf t = ts.length) (h : Value.okWide P W r base t v) :
    ∃ q : Raw, v = .agg (q.cells ks 0).toArray ∧ q.fine ks 0 := by
  unfold Value.okWide at h
  have key : (∃ cs, v = .agg cs ∧ cs.size = P.cellsOf t ∧ Row.okWide P W r base t cs) → ∃ q : Raw, v = .agg (q.cells ks 0).toArray ∧ q.fine ks 0 := by
    rintro ⟨cs, rfl, h1, h2⟩
    obtain ⟨q, rfl, hf⟩ := row_raw hts hks (by rw [h1, hsz]) h2
    exact ⟨q, rfl, hf⟩
  cases hd : P.underlying t with
  | none => rw [hd] at hu; cases hu
  | some d =>
    rw [hd] at h hu
    cases d <;> first | (cases hu; done) | exact key h

theorem open_sc {k : K1} (hk : kOf P t = some k) (h : Value.okWide P W r base t v) : k.is v := by
  refine cell_kind (W := W) (r := r) (base := base) hk ?_
  unfold Value.okWide at h
  unfold kOf at hk
  cases hd : P.underlying t with
  | none => rw [hd] at hk; cases hk
  | some d =>
    rw [hd] at h hk
    cases d <;> first | (cases hk; done) | exact h
end


theorem cells_append (q : Raw) : ∀ (a b : List K1) (o : Nat), q.cells (a ++ b) o = q.cells a o ++ q.cells b (o + a.length)
  | [], b, o => by simp [Raw.cells]
  | k :: a, b, o => by
    simp only [List.cons_append, Raw.cells, cells_append q a b (o + 1), List.length_cons]
    rw [show o + 1 + a.length = o + (a.length + 1) by omega]

def kVec : List K1 := List.replicate 8 (.i .i64)
theorem kVec_len : kVec.length = 8 := rfl
theorem gVec_flat (q : Raw) (o : Nat) : GV.flat (gVec fun j => q.x (o + j)) = q.cells kVec o := by
  simp [gVec, GV.flat, kVec, Raw.cells, Raw.at, List.replicate, List.range, List.range.loop]
def kVec2 : List K1 := kVec ++ kVec ++ kVec ++ kVec ++ kVec ++ kVec ++ kVec ++ kVec
theorem kVec2_len : kVec2.length = 64 := rfl
theorem gVec2_flat (q : Raw) (o : Nat) : GV.flat (gVec2 fun i j => q.x (o + i * 8 + j)) = q.cells kVec2 o := by
  have h : ∀ i, GV.flat (gVec fun j => q.x (o + i * 8 + j)) = q.cells kVec (o + i * 8) := fun i => gVec_flat q (o + i * 8)
  simp only [gVec2, GV.flat, List.range, List.range.loop, List.flatMap_cons, List.flatMap_nil, h, kVec2, cells_append, List.length_append, kVec_len]
  simp [Nat.add_assoc]

end Go.Proofs.YtnoeabmpdjpfaaaDoor.Vc

/- What a law's arguments are: cells of structs, slices, slices in structs; and how large. -/
set_option linter.unusedVariables false
set_option linter.unusedSimpArgs false
namespace Go.Proofs.YtnoeabmpdjpfaaaDoor.Vc
open Go Go.ChangeShapes Go.WideShapes Go.ChangeAt

def kFields (g : TypeId → Option (List K1)) (P : Program) : List Field → Nat → Option (List K1)
  | [], _ => some []
  | f :: fs, o => if f.offset = o then (g f.type).bind fun l => if l.length = P.cellsOf f.type then (kFields g P fs (o + l.length)).map (l ++ ·) else none else none

/-- The kinds of a type's cells. -/
def kAll (P : Program) : Nat → TypeId → Option (List K1)
  | 0, _ => none
  | n + 1, t => match P.underlying t with
    | some .bool => some [.b]
    | some (.int k) => some [.i k]
    | some .string => some [.s]
    | some (.slice _) => some [.sl t]
    | some (.struct fs) => (kFields (kAll P n) P fs.toList 0).bind fun l => if l.length = P.cellsOf t then some l else none
    | some (.array m e) => (kAll P n e).bind fun l => if l.length = P.cellsOf e ∧ m * P.cellsOf e = P.cellsOf t then some ((List.range m).flatMap fun _ => l) else none
    | _ => none

section
variable {H : Type} (enc : TypeId × Value → H) (P : Program) (W : World)

/-- A cell that reads, and is not too large. -/
def RdT (t : TypeId) (v : Value) : Prop := ∃ fuel x, DataW.trod enc P W 0 (fun _ => true) true fuel t [v] = some x ∧ (x.1.weights P t).all (· ≤ reachBytes) = true

def KOk (k : K1) (v : Value) : Prop := k.is v ∧ (∀ s, v = .string s → s.size ≤ reachBytes) ∧ ∀ t, k = .sl t → RdT enc P W t v
end

section
variable {H : Type} {enc : TypeId × Value → H} {P : Program} {W : World}

theorem wf_has {k : IntKind} {n : Int} (h : (Lit.int k n).wf = true) : k.has n := by
  simpa [Lit.wf, IntKind.has] using h

theorem all_sub {a b : List Nat} (h : b.all (· ≤ reachBytes) = true) (hs : ∀ x ∈ a, x ∈ b) : a.all (· ≤ reachBytes) = true := by
  rw [List.all_eq_true] at h ⊢
  exact fun x hx => h x (hs x hx)

theorem weightsEach_mem : ∀ {ts : List TypeId} {ds : List (DataW H)} {i : Nat} {t : TypeId} {d : DataW H}, ts[i]? = some t → ds[i]? = some d → ∀ x ∈ d.weights P t, x ∈ DataW.weightsEach P ts ds
  | [], _, i, _, _, h, _ => by simp at h
  | t :: ts, [], i, _, _, _, h => by simp at h
  | t :: ts, d :: ds, 0, _, _, h1, h2 => by
    simp at h1 h2; subst h1; subst h2
    intro x hx; simp [DataW.weightsEach, hx]
  | t :: ts, d :: ds, i + 1, _, _, h1, h2 => by
    intro x hx
    have := weightsEach_mem (ts := ts) (ds := ds) (i := i) (by simpa using h1) (by simpa using h2) x hx
    simp [DataW.weightsEach, this]
theorem weightsAll_mem {e : TypeId} : ∀ {ds : List (DataW H)} {d : DataW H}, d ∈ ds → ∀ x ∈ d.weights P e, x ∈ DataW.weightsAll P e ds
  | [], _, h => by simp at h
  | d :: ds, d', h => by
    intro x hx
    rcases List.mem_cons.1 h with rfl | h
    · simp [DataW.weightsAll, hx]
    · simp [DataW.weightsAll, weightsAll_mem h x hx]

def Kinds (ks : List K1) (cs : List Value) : Prop := cs.length = ks.length ∧ ∀ (j : Nat) (v : Value) (k : K1), cs[j]? = some v → ks[j]? = some k → KOk enc P W k v

theorem Kinds.app {a b : List K1} {cs : List Value} (h1 : Kinds (enc := enc) (P := P) (W := W) a (cs.take a.length)) (h2 : Kinds (enc := enc) (P := P) (W := W) b (cs.drop a.length)) : Kinds (enc := enc) (P := P) (W := W) (a ++ b) cs := by
  obtain ⟨l1, h1⟩ := h1
  obtain ⟨l2, h2⟩ := h2
  simp only [List.length_take, List.length_drop] at l1 l2
  refine ⟨by simp; omega, fun j v k hj hk => ?_⟩
  rcases Nat.lt_or_ge j a.length with hl | hl
  · rw [List.getElem?_append_left hl] at hk
    exact h1 j v k (by rw [List.getElem?_take_of_lt hl]; exact hj) hk
  · rw [List.getElem?_append_right hl] at hk
    exact h2 (j - a.length) v k (by rw [List.getElem?_drop, show a.length + (j - a.length) = j by omega]; exact hj) hk

theorem trod_kinds : ∀ (n : Nat) (fuel : Nat) (t : TypeId) (ks : List K1) (cs : List Value) (x : DataW H × List MemPlace), kAll P n t = some ks → DataW.trod enc P W 0 (fun _ => true) true fuel t cs = some x →
    (x.1.weights P t).all (· ≤ reachBytes) = true → Kinds (enc := enc) (P := P) (W := W) ks cs := by
  intro n
  induction n with
  | zero => intro fuel t ks cs x hk; cases hk
  | succ n ih =>
    intro fuel t ks cs x hk h hw
    unfold kAll at hk
    have single : ∀ (k : K1) (v : Value), KOk enc P W k v → Kinds (enc := enc) (P := P) (W := W) [k] [v] := fun k v hkv => by
      refine ⟨rfl, fun j v' k' hj hk' => ?_⟩
      cases j with
      | zero => simp at hj hk'; subst hj; subst hk'; exact hkv
      | succ j => simp at hj
    cases hu : P.underlying t with
    | none => rw [hu] at hk; cases hk
    | some d =>
      rw [hu] at hk
      cases d with
      | bool =>
        obtain ⟨b, rfl, rfl⟩ := DataW.trod_bool hu h
        simp at hk; subst hk
        exact single _ _ ⟨⟨b, rfl⟩, (fun s hs => by cases hs), fun t e => by cases e⟩
      | int k =>
        obtain ⟨m, rfl, rfl, hwf⟩ := DataW.trod_int hu h
        simp at hk; subst hk
        exact single _ _ ⟨⟨m, rfl, wf_has hwf⟩, (fun s hs => by cases hs), fun t e => by cases e⟩
      | string =>
        obtain ⟨s, rfl, rfl, hl⟩ := DataW.trod_string hu h
        simp at hk; subst hk
        have : s.size ≤ reachBytes := by simpa [DataW.weights] using hw
        exact single _ _ ⟨⟨s, rfl, by unfold reachBytes at this; show (s.size : Int) ≤ 9223372036854775807; omega⟩, (fun s' hs => by cases hs; exact this), fun t e => by cases e⟩
      | slice e =>
        have hcs : ∃ a n c, cs = [.slice a n c] := by
          rcases DataW.trod_slice hu h with ⟨rfl, _⟩ | ⟨a, len, cap, _, _, _, _, rfl, _⟩
          · exact ⟨_, _, _, rfl⟩
          · exact ⟨_, _, _, rfl⟩
        obtain ⟨a, m, c, rfl⟩ := hcs
        simp at hk; subst hk
        refine single _ _ ⟨⟨a, m, c, rfl⟩, (fun s hs => by cases hs), fun t' e' => ?_⟩
        cases e'
        exact ⟨fuel, x, h, hw⟩
      | struct fs =>
        simp only [Option.bind_eq_some_iff] at hk
        obtain ⟨l, hl, hk⟩ := hk
        split at hk
        · rename_i hlen
          simp at hk; subst hk
          obtain ⟨xs, m, _, rfl, hcl, hxl, hf⟩ := DataW.trod_struct hu h
          simp only [DataW.weights, hu] at hw
          have key : ∀ (gs : List Field) (i o : Nat) (l' : List K1), (∀ k f, gs[k]? = some f → fs[i + k]? = some f) → i + gs.length = fs.size → kFields (kAll P n) P gs o = some l' → (cs.drop o).length = l'.length → Kinds (enc := enc) (P := P) (W := W) l' (cs.drop o) := by
            intro gs
            induction gs with
            | nil =>
              intro i o l' _ _ hl' hlen'
              simp [kFields] at hl'; subst hl'
              have : cs.drop o = [] := List.length_eq_zero_iff.mp (by simpa using hlen')
              rw [this]
              exact ⟨rfl, fun j v k hj => by simp at hj⟩
            | cons f gs ihg =>
              intro i o l' hgs hi hl' hlen'
              simp only [kFields] at hl'
              split at hl'
              · rename_i hoff
                simp only [Option.bind_eq_some_iff] at hl'
                obtain ⟨a, ha, hl'⟩ := hl'
                split at hl'
                · rename_i hal
                  simp only [Option.map_eq_some_iff] at hl'
                  obtain ⟨b, hb, rfl⟩ := hl'
                  have hfi := hgs 0 f rfl
                  rw [Nat.add_zero] at hfi
                  have hlt : i < fs.size := by simp at hi; omega
                  have ht := hf i f hfi
                  rw [List.getElem?_eq_getElem (by omega : i < xs.length)] at ht
                  have hk1 := ih m f.type a _ _ ha ht (all_sub hw (fun y hy => weightsEach_mem (i := i) (t := f.type) (d := xs[i].1) (by simp [hfi]) (by simp [List.getElem?_eq_getElem (by omega : i < xs.length)]) y hy))
                  rw [hoff, ← hal] at hk1
                  refine Kinds.app hk1 ?_
                  rw [List.drop_drop]
                  simp only [List.length_append] at hlen'
                  refine ihg (i + 1) (o + a.length) b (fun k f' hk' => ?_) (by simp at hi; omega) hb (by simp only [List.length_drop] at hlen' ⊢; omega)
                  have := hgs (k + 1) f' (by simpa using hk')
                  rw [show i + (k + 1) = i + 1 + k by omega] at this
                  exact this
                · cases hl'
              · cases hl'
          have := key fs.toList 0 0 l (fun k f hk => by simpa using hk) (by simp) hl (by simp [hcl, hlen])
          simpa using this
        · cases hk
      | array m e =>
        simp only [Option.bind_eq_some_iff] at hk
        obtain ⟨l, hl, hk⟩ := hk
        split at hk
        · rename_i hlen
          simp at hk; subst hk
          obtain ⟨xs, q, _, rfl, hcl, hxl, hf⟩ := DataW.trod_array hu h
          simp only [DataW.weights, hu] at hw
          have key : ∀ (r i : Nat), i + r = m → Kinds (enc := enc) (P := P) (W := W) ((List.range r).flatMap fun _ => l) (cs.drop (i * P.cellsOf e)) := by
            intro r
            induction r with
            | zero =>
              intro i hi
              have : cs.drop (i * P.cellsOf e) = [] := List.drop_eq_nil_of_le (by rw [hcl, ← hlen.2, show i = m by omega]; exact Nat.le_refl _)
              rw [this]
              exact ⟨rfl, fun j v k hj => by simp at hj⟩
            | succ r ihr =>
              intro i hi
              have hlt : i < xs.length := by omega
              have ht := hf i (by omega)
              rw [List.getElem?_eq_getElem hlt] at ht
              have hk1 := ih q e l _ _ hl ht (all_sub hw (fun y hy => weightsAll_mem (d := xs[i].1) (List.mem_map.2 ⟨xs[i], List.getElem_mem hlt, rfl⟩) y hy))
              have hr : (List.range (r + 1)).flatMap (fun _ => l) = l ++ (List.range r).flatMap (fun _ => l) := by
                rw [List.range_succ_eq_map, List.flatMap_cons, List.flatMap_map]
              rw [hr]
              rw [← hlen.1] at hk1
              refine Kinds.app (by rw [← hlen.1]; exact hk1) ?_
              rw [List.drop_drop, ← hlen.1]
              have := ihr (i + 1) (by omega)
              rw [← hlen.1, Nat.add_mul, Nat.one_mul] at this
              exact this
          have := key m 0 (by omega)
          simpa using this
        · cases hk
      | _ => cases hk

theorem cells_get (q : Raw) : ∀ (ks : List K1) (i j : Nat) (k : K1), ks[j]? = some k → (q.cells ks i)[j]? = some (q.at (i + j) k)
  | [], i, j, k, h => by simp at h
  | k0 :: ks, i, 0, k, h => by simp at h; subst h; rfl
  | k0 :: ks, i, j + 1, k, h => by
    have := cells_get q ks (i + 1) j k (by simpa using h)
    simp only [Raw.cells, List.getElem?_cons_succ, this]
    rw [show i + 1 + j = i + (j + 1) by omega]

/-- All about a plain struct's cells. -/
def Fine (enc : TypeId × Value → H) (P : Program) (W : World) (ks : List K1) (q : Raw) : Prop := ∀ (j : Nat) (k : K1), ks[j]? = some k → KOk enc P W k (q.at j k)

theorem kinds_raw {ks : List K1} {cs : List Value} (h : Kinds (enc := enc) (P := P) (W := W) ks cs) : ∃ q : Raw, cs = q.cells ks 0 ∧ Fine enc P W ks q := by
  obtain ⟨q, hq, _⟩ := raw_of ks 0 cs h.1 fun j v k hj hk => (h.2 j v k hj hk).1
  refine ⟨q, hq, fun j k hk => ?_⟩
  have := cells_get q ks 0 j k hk
  rw [Nat.zero_add] at this
  exact h.2 j _ k (by rw [hq]; exact this) hk

theorem Fine.int {ks : List K1} {q : Raw} (h : Fine enc P W ks q) {j : Nat} {k : IntKind} (hk : ks[j]? = some (.i k)) : k.has (q.x j) := by
  obtain ⟨n, h1, h2⟩ := (h j _ hk).1
  simp only [Raw.at, Value.int.injEq, true_and] at h1
  rw [h1]; exact h2
theorem Fine.str {ks : List K1} {q : Raw} (h : Fine enc P W ks q) {j : Nat} (hk : ks[j]? = some .s) : (q.y j).size ≤ reachBytes := (h j _ hk).2.1 _ rfl
theorem Fine.rd {ks : List K1} {q : Raw} (h : Fine enc P W ks q) {j : Nat} {t : TypeId} (hk : ks[j]? = some (.sl t)) : RdT enc P W t (q.v j) := (h j _ hk).2.2 t rfl
theorem Fine.slv {ks : List K1} {q : Raw} (h : Fine enc P W ks q) {j : Nat} {t : TypeId} (hk : ks[j]? = some (.sl t)) : (q.v j).oneCell' = true := by
  obtain ⟨a, n, c, e⟩ := (h j _ hk).1
  simp only [Raw.at] at e
  rw [e]; rfl

theorem choose_le {α : Type} {p : Nat → α → Prop} (d : α) : ∀ n, (∀ i, i < n → ∃ x, p i x) → ∃ f : Nat → α, ∀ i, i < n → p i (f i)
  | 0, _ => ⟨fun _ => d, fun i h => by omega⟩
  | n + 1, h => by
    obtain ⟨f, hf⟩ := choose_le d n fun i hi => h i (by omega)
    obtain ⟨x, hx⟩ := h n (by omega)
    refine ⟨fun i => if i = n then x else f i, fun i hi => ?_⟩
    by_cases e : i = n
    · subst e; simpa using hx
    · simp only [e, if_false]; exact hf i (by omega)

theorem flats_get {z : Nat} {n : Nat} {g : Nat → GV} (hz : ∀ i, i < n → (GV.flat (g i)).length = z) {j : Nat} {v : Value} (h : (flats ((List.range n).map g))[j]? = some v) : ∃ i k, i < n ∧ j = i * z + k ∧ k < z ∧ (GV.flat (g i))[k]? = some v := by
  have key : ∀ (r b j : Nat), b + r = n → (flats ((List.range' b r).map g))[j]? = some v → ∃ i k, i < n ∧ j + b * z = i * z + k ∧ k < z ∧ (GV.flat (g i))[k]? = some v := by
    intro r
    induction r with
    | zero => intro b j _ h; simp [flats] at h
    | succ r ih =>
      intro b j hb h
      have e : flats ((List.range' b (r + 1)).map g) = GV.flat (g b) ++ flats ((List.range' (b + 1) r).map g) := by simp [List.range'_succ, flats]
      rw [e] at h
      have hl := hz b (by omega)
      rcases Nat.lt_or_ge j (GV.flat (g b)).length with hj | hj
      · rw [List.getElem?_append_left hj] at h
        exact ⟨b, j, by omega, by omega, by omega, h⟩
      · rw [List.getElem?_append_right hj] at h
        obtain ⟨i, k, h1, h2, h3, h4⟩ := ih (b + 1) _ (by omega) h
        refine ⟨i, k, h1, ?_, h3, h4⟩
        rw [Nat.add_mul, Nat.one_mul] at h2
        omega
  rw [List.range_eq_range'] at h
  obtain ⟨i, k, h1, h2, h3, h4⟩ := key n 0 j (by omega) h
  exact ⟨i, k, h1, by omega, h3, h4⟩

/-- A slice of plain structs. -/
theorem rd_slice {t e : TypeId} {n0 : Nat} {ks : List K1} {v : Value} {g : Raw → GV} (ht : P.underlying t = some (.slice e)) (hk : kAll P n0 e = some ks) (hn : ks.length = P.cellsOf e) (h0 : 0 < P.cellsOf e) (hflat : ∀ q, (g q).flat = q.cells ks 0)
    (hok : ∀ q, (∀ j t', ks[j]? = some (.sl t') → (q.v j).oneCell' = true) → (g q).ok) (hsz : ∀ q, (g q).sz = P.cellsOf e) (h : RdT enc P W t v) :
    ∃ l : List Raw, SlR W.ph v (P.cellsOf e) (l.map g) ∧ l.length * P.bytesOf e ≤ reachBytes ∧ ∀ q ∈ l, Fine enc P W ks q := by
  obtain ⟨fuel, x, hx, hw⟩ := h
  rcases Go.Deep.open_slice ht hx with ⟨hv, rfl⟩ | ⟨a, len, cap, m, n, D, Pl, hv, _, hlc, _, hm, rfl, hel⟩
  · simp at hv; subst hv
    exact ⟨[], ⟨fun x hx => by simp at hx, .inl ⟨rfl, rfl⟩⟩, by simp, fun q hq => by simp at hq⟩
  · simp at hv; subst hv
    simp only [if_true] at hm
    subst hm
    simp only [DataW.weights, ht, List.all_cons, Bool.and_eq_true, decide_eq_true_eq, List.length_map, List.length_range] at hw
    obtain ⟨q, hq⟩ := choose_le (p := fun i q => W.cells? 0 (a.add (i * P.cellsOf e)) (P.cellsOf e) = some (Raw.cells q ks 0) ∧ Fine enc P W ks q) ⟨fun _ => 0, fun _ => ⟨#[]⟩, fun _ => false, fun _ => undef⟩ len fun i hi => by
      obtain ⟨cs', h1, h2⟩ := hel i (by omega)
      have hw' : ((D i).weights P e).all (· ≤ reachBytes) = true := all_sub hw.2 fun y hy => by
        refine List.mem_append_left _ (weightsAll_mem (d := D i) ?_ y hy)
        exact List.mem_map.2 ⟨i, List.mem_range.2 hi, rfl⟩
      obtain ⟨q, hq, hf⟩ := kinds_raw (trod_kinds n0 n e ks cs' _ hk h2 hw')
      exact ⟨q, by rw [← hq]; exact h1, hf⟩
    refine ⟨(List.range len).map q, ⟨fun y hy => ?_, ?_⟩, ?_, fun y hy => ?_⟩
    · rw [List.map_map] at hy
      obtain ⟨i, hi, rfl⟩ := List.mem_map.1 hy
      exact ⟨hok _ fun j t' hj => (hq i (List.mem_range.1 hi)).2.slv hj, hsz _⟩
    · refine .inr ⟨a, m, by simp, by simpa using hlc, fun hc => ?_⟩
      obtain ⟨cs0, h1, _⟩ := hel 0 hc
      obtain ⟨_, hl0, hc0⟩ := World.cells?_some h1
      have hblk : ∃ cs e' fz, a.spot = none ∧ W.heap[a.block]? = some (.cells cs e' fz) := by
        have h2 := hc0 0 h0
        rw [List.getElem?_eq_getElem (by omega)] at h2
        have hab : (a.add (0 * P.cellsOf e)).add 0 = a := by simp [Addr.add]
        rw [hab] at h2
        unfold World.cell? at h2
        split at h2
        · rename_i c ty fz hb
          split at h2
          · cases h2
          · rename_i hs
            exact ⟨c, ty, fz, by simpa using hs, hb⟩
        · cases h2
      obtain ⟨cs, e', fz, hsp, hb⟩ := hblk
      refine ⟨cs, e', fz, hsp, hb, fun j v hj => ?_⟩
      rw [List.map_map] at hj
      obtain ⟨i, k, hi, rfl, hkz, hv⟩ := flats_get (z := P.cellsOf e) (g := g ∘ q) (fun i hi => by
        simp only [Function.comp, hflat]
        have := (hq i hi).1
        obtain ⟨_, hl, _⟩ := World.cells?_some this
        exact hl) hj
      obtain ⟨h1, _⟩ := hq i hi
      obtain ⟨_, hl, hc⟩ := World.cells?_some h1
      have h2 := hc k hkz
      simp only [Function.comp, hflat] at hv
      rw [hv] at h2
      unfold World.cell? at h2
      obtain ⟨b, o, sp⟩ := a
      simp only at hsp hb
      subst hsp
      rw [addr_add, addr_add] at h2
      simp only [hb] at h2
      simpa [Nat.add_assoc] using h2
    · simp only [List.length_map, List.length_range]
      have := hw.1
      have : len * P.bytesOf e ≤ (len + (m - len)) * P.bytesOf e := Nat.mul_le_mul_right _ (by omega)
      omega
    · obtain ⟨i, hi, rfl⟩ := List.mem_map.1 hy
      exact (hq i (List.mem_range.1 hi)).2

/-! ### A law's arguments -/
/-- An argument that reads. -/
def RdV (enc : TypeId × Value → H) (P : Program) (W : World) (t : TypeId) (v : Value) : Prop := ∃ fuel x, DataW.trod enc P W 0 (fun _ => true) true fuel t v.cells.toList = some x ∧ (x.1.weights P t).all (· ≤ reachBytes) = true

def RdVs (enc : TypeId × Value → H) (P : Program) (W : World) (base : Nat) : List TypeId → List Value → Prop
  | [], [] => True
  | t :: ts, v :: vs => (RdV enc P W t v ∧ Value.okWide P W .any base t v) ∧ RdVs enc P W base ts vs
  | _, _ => False

theorem args_rd {base : Nat} : ∀ {ts : List TypeId} {vs : List Value} {ds : List (DataW H)} {ps : List MemPlace}, (∀ (j : Nat) t v, ts[j]? = some t → vs[j]? = some v → Value.okWide P W .any base t v) →
    DataW.TrodAll enc P W 0 (fun _ => true) true ts vs ds ps → (DataW.weightsEach P ts ds).all (· ≤ reachBytes) = true → RdVs enc P W base ts vs
  | [], vs, ds, ps, _, h, _ => by
    match vs, ds, h with
    | [], [], _ => trivial
  | t :: ts, vs, ds, ps, hv, h, hw => by
    obtain ⟨v, vs', d, ds', p, q, rfl, rfl, rfl, ⟨fuel, h3⟩, h4⟩ := trodAll_cons h
    simp only [DataW.weightsEach, List.all_append, Bool.and_eq_true] at hw
    exact ⟨⟨⟨fuel, _, h3, hw.1⟩, hv 0 t v rfl rfl⟩, args_rd (fun j t v h1 h2 => hv (j + 1) t v (by simpa using h1) (by simpa using h2)) h4 hw.2⟩

theorem rdvs_cons {base : Nat} {t : TypeId} {ts : List TypeId} {vs : List Value} (h : RdVs enc P W base (t :: ts) vs) : ∃ v vs', vs = v :: vs' ∧ RdV enc P W t v ∧ Value.okWide P W .any base t v ∧ RdVs enc P W base ts vs' := by
  cases vs with
  | nil => exact h.elim
  | cons v vs => exact ⟨v, vs, rfl, h.1.1, h.1.2, h.2⟩
theorem rdvs_nil {base : Nat} {vs : List Value} (h : RdVs enc P W base [] vs) : vs = [] := by
  cases vs with
  | nil => rfl
  | cons v vs => exact h.elim

/-- A struct. -/
theorem rdv_agg {base : Nat} {t : TypeId} {v : Value} {n0 : Nat} {ks : List K1} {g : Raw → GV} (hu : agDo (P.underlying t) = true) (hk : kAll P n0 t = some ks) (hflat : ∀ q, (g q).flat = q.cells ks 0) (hs : ∀ q v, g q ≠ .s v)
    (h : RdV enc P W t v) (hv : Value.okWide P W .any base t v) : ∃ q : Raw, v = (g q).val ∧ Fine enc P W ks q := by
  obtain ⟨fuel, x, hx, hw⟩ := h
  obtain ⟨q, hq, hf⟩ := kinds_raw (trod_kinds n0 fuel t ks _ _ hk hx hw)
  refine ⟨q, ?_, hf⟩
  have : ∃ cs, v = .agg cs := by
    unfold Value.okWide at hv
    cases hd : P.underlying t with
    | none => rw [hd] at hu; cases hu
    | some d =>
      rw [hd] at hv hu
      cases d <;> first | (cases hu; done) | (obtain ⟨cs, rfl, _⟩ := hv; exact ⟨cs, rfl⟩)
  obtain ⟨cs, rfl⟩ := this
  simp only [Value.cells] at hq
  rw [show (g q).val = .agg ((g q).flat).toArray by
    have := hs q
    cases hg : g q with
    | s v => exact absurd hg (this v)
    | u => rfl
    | c a b => rfl
    | ar a b c => rfl]
  rw [hflat, ← hq]

theorem cells_one {v w : Value} (h : v.cells.toList = [w]) (hv : ∀ cs, v ≠ .agg cs) : v = w := by
  cases v <;> first | (simpa [Value.cells] using h) | exact absurd rfl (hv _)

theorem ok_noagg {base : Nat} {t : TypeId} {v : Value} {d : TypeDesc} (hu : P.underlying t = some d) (hd : agDo (some d) = false) (hv : Value.okWide P W .any base t v) : ∀ cs, v ≠ .agg cs := by
  intro cs e
  subst e
  unfold Value.okWide at hv
  rw [hu] at hv
  cases d <;> first | (cases hd; done) | (simp only [Cell.okWide, Cell.ok, hu] at hv)

/-- A number, a string, a bool. -/
theorem rdv_sc {base : Nat} {t : TypeId} {v : Value} {k : K1} (hk : kAll P 1 t = some [k]) (ha : agDo (P.underlying t) = false) (h : RdV enc P W t v) (hv : Value.okWide P W .any base t v) : KOk enc P W k v := by
  obtain ⟨fuel, x, hx, hw⟩ := h
  have hK := trod_kinds 1 fuel t [k] _ _ hk hx hw
  have hl := hK.1
  match hc : v.cells.toList, hl with
  | [w], _ =>
    have hu : ∃ d, P.underlying t = some d := by
      cases hd : P.underlying t with
      | none => simp [kAll, hd] at hk
      | some d => exact ⟨d, rfl⟩
    obtain ⟨d, hu⟩ := hu
    rw [hu] at ha
    have := cells_one hc (ok_noagg hu ha hv)
    subst this
    exact hK.2 0 v k (by rw [hc]; rfl) rfl

/-- A slice as an argument. -/
theorem rdv_slice {base : Nat} {t e : TypeId} {v : Value} (ht : P.underlying t = some (.slice e)) (h : RdV enc P W t v) (hv : Value.okWide P W .any base t v) : RdT enc P W t v := by
  obtain ⟨fuel, x, hx, hw⟩ := h
  have hcs : ∃ w, v.cells.toList = [w] := by
    rcases DataW.trod_slice ht hx with ⟨h1, _⟩ | ⟨a, len, cap, _, _, _, _, h1, _⟩
    · exact ⟨_, h1⟩
    · exact ⟨_, h1⟩
  obtain ⟨w, hc⟩ := hcs
  have := cells_one hc (ok_noagg ht rfl hv)
  subst this
  exact ⟨fuel, x, by rw [← hc]; exact hx, hw⟩
end
end Go.Proofs.YtnoeabmpdjpfaaaDoor.Vc

/- A law's row out of its contract. -/
set_option linter.unusedVariables false
set_option linter.unusedSimpArgs false
namespace Go.Proofs.YtnoeabmpdjpfaaaDoor.Vc
open Go Go.ChangeShapes Go.WideShapes Go.ChangeAt

theorem trodAll_len {H : Type} {enc : TypeId × Value → H} {P : Program} {W : World} : ∀ {ts : List TypeId} {vs : List Value} {ds : List (DataW H)} {ps : List MemPlace}, DataW.TrodAll enc P W 0 (fun _ => true) true ts vs ds ps → ds.length = ts.length
  | [], vs, ds, ps, h => by
    match vs, ds, h with
    | [], [], _ => rfl
  | t :: ts, vs, ds, ps, h => by
    obtain ⟨v, vs', d, ds', p, q, rfl, rfl, rfl, _, h4⟩ := trodAll_cons h
    simp [trodAll_len h4]

theorem law_lifted {C : Checked} {os : Os} {f : FuncId} {fn : Func} {s : ChangeSpec} {conds : List PathCond} {H : Type} {enc : TypeId × Value → H} {tb : TypeId} {ts : List TypeId}
    (own : ownKnob C.prog.godebug = none) (hl : laidOutB C.prog = true) (started : os.Started) (noInit : C.prog.inits.idxOf? f = none) (hfn : C.prog.funcs[f]? = some fn)
    (witness : ∃ (w : World) (tape : Tape) (i : Input), w.os = os ∧ (w.forCall tape i).Shaped C.prog ∧ i.vars = [] ∧ Input.okWide C.prog (w.forCall tape i) .any w.heap.size f i ∧
      s.pre6 enc C.prog fn conds false (w.forCall tape i).memory i.args ∧ ({} : Assume).holds C.prog (lone (Frame.enter C.prog f i.args .normal) [] (w.forCall tape i)))
    (hr : (fn.params.toList.all fun t => C.prog.readableRec t && decide (t < C.prog.types.size)) = true) (hv : s.vars = []) (hres : fn.resultTypes = #[tb]) (htb : C.prog.underlying tb = some .bool)
    (hts : fn.params.toList = ts) (hs : ∀ ds : List (DataW H), ds.length = ts.length → s.fn H ds = { results := [.lit (.bool true)], args := ds })
    (h : ∀ W base vs, RdVs enc C.prog W base ts vs → W.ShapedOpen C.prog → Spec C.prog f vs PH.no W fun rs _ => rs = [.s (.bool true)]) :
    ReturnsInHanded {} C os f .any (s.pre6 enc C.prog fn conds false) (s.post enc C.prog fn false true false false) := by
  refine returnsInHanded_of_change_shaped own started noInit hfn witness ?_
  intro W base args ds gs before hval hW hcnd hwt hsh _
  have hW' := hW
  obtain ⟨p, q, hA, hV, rfl, hfz, hnd⟩ := hW'
  rw [hv] at hV
  obtain ⟨rfl, rfl⟩ := trodVars_none hV
  have hvt : s.plain.varTypes C.prog = [] := by
    have : s.plain.vars = [] := hv
    simp [DataSpec.varTypes, this]
  rw [hvt, List.append_nil, List.append_nil] at hwt
  have hlen := trodAll_len hA
  exact (contract_true (again := false) hl hr hv hres htb (by rw [List.append_nil]; exact hs ds (by rw [hlen, hts])) hW (h W base args.toList (hts ▸ args_rd (fun j t v h1 h2 => hval j t v (by simpa using h1) (by simpa using h2)) hA hwt) hsh)).mono fun e W' ⟨v, h1, h2, _⟩ => ⟨v, h1, h2⟩
end Go.Proofs.YtnoeabmpdjpfaaaDoor.Vc

/- A law's row out of its contract, where what is read is of bounded bulk; over listed variables. -/
set_option linter.unusedVariables false
set_option linter.unusedSimpArgs false
namespace Go.Proofs.YtnoeabmpdjpfaaaDoor.Vc
open Go Go.Proofs Go.Proofs.YtnoeabmpdjpfaaaDoor Go.ChangeShapes Go.WideShapes Go.ChangeAt

section
variable {H : Type} {enc : TypeId × Value → H} {P : Program} {W : World}

theorem bulk_one_le (d : DataW H) : 1 ≤ Rows.uptoBulk d := by
  cases d with
  | lit l => cases l <;> simp [Rows.uptoBulk]
  | _ => simp [Rows.uptoBulk]
theorem bulk_app (l r : List (DataW H)) : Rows.uptoBulkAll (l ++ r) = Rows.uptoBulkAll l + Rows.uptoBulkAll r := by
  induction l with
  | nil => simp [Rows.uptoBulkAll]
  | cons x l ih => simp only [List.cons_append, Rows.uptoBulkAll, ih]; omega

/-- An argument that reads, of so much bulk. -/
def RdB (enc : TypeId × Value → H) (P : Program) (W : World) (t : TypeId) (v : Value) (n : Nat) : Prop := ∃ fuel x, DataW.trod enc P W 0 (fun _ => true) true fuel t v.cells.toList = some x ∧ (x.1.weights P t).all (· ≤ reachBytes) = true ∧ Rows.uptoBulk x.1 = n
def RdBs (enc : TypeId × Value → H) (P : Program) (W : World) (base : Nat) : List TypeId → List Value → Nat → Prop
  | [], [], _ => True
  | t :: ts, v :: vs, n => ∃ a b, a + b ≤ n ∧ (RdB enc P W t v a ∧ Value.okWide P W .any base t v) ∧ RdBs enc P W base ts vs b
  | _, _, _ => False
theorem RdB.v {t : TypeId} {v : Value} {n : Nat} (h : RdB enc P W t v n) : RdV enc P W t v := by
  obtain ⟨fuel, x, h1, h2, _⟩ := h
  exact ⟨fuel, x, h1, h2⟩

theorem args_rdb {base : Nat} : ∀ {ts : List TypeId} {vs : List Value} {ds : List (DataW H)} {ps : List MemPlace} {n : Nat}, (∀ (j : Nat) t v, ts[j]? = some t → vs[j]? = some v → Value.okWide P W .any base t v) →
    DataW.TrodAll enc P W 0 (fun _ => true) true ts vs ds ps → (DataW.weightsEach P ts ds).all (· ≤ reachBytes) = true → Rows.uptoBulkAll ds ≤ n → RdBs enc P W base ts vs n
  | [], vs, ds, ps, n, _, h, _, _ => by
    match vs, ds, h with
    | [], [], _ => trivial
  | t :: ts, vs, ds, ps, n, hv, h, hw, hn => by
    obtain ⟨v, vs', d, ds', p, q, rfl, rfl, rfl, ⟨fuel, h3⟩, h4⟩ := trodAll_cons h
    simp only [DataW.weightsEach, List.all_append, Bool.and_eq_true] at hw
    simp only [Rows.uptoBulkAll] at hn
    exact ⟨Rows.uptoBulk d, Rows.uptoBulkAll ds', hn, ⟨⟨fuel, _, h3, hw.1, rfl⟩, hv 0 t v rfl rfl⟩, args_rdb (fun j t v h1 h2 => hv (j + 1) t v (by simpa using h1) (by simpa using h2)) h4 hw.2 (Nat.le_refl _)⟩

theorem rdbs_cons {base : Nat} {t : TypeId} {ts : List TypeId} {vs : List Value} {n : Nat} (h : RdBs enc P W base (t :: ts) vs n) : ∃ v vs' a b, vs = v :: vs' ∧ a + b ≤ n ∧ RdB enc P W t v a ∧ Value.okWide P W .any base t v ∧ RdBs enc P W base ts vs' b := by
  cases vs with
  | nil => exact h.elim
  | cons v vs =>
    obtain ⟨a, b, h1, h2, h3⟩ := h
    exact ⟨v, vs, a, b, rfl, h1, h2.1, h2.2, h3⟩
theorem rdbs_nil {base : Nat} {vs : List Value} {n : Nat} (h : RdBs enc P W base [] vs n) : vs = [] := by
  cases vs with
  | nil => rfl
  | cons v vs => exact h.elim

/-- A string. -/
theorem rdb_str {base : Nat} {t : TypeId} {v : Value} {n : Nat} (ht : P.underlying t = some .string) (h : RdB enc P W t v n) (hv : Value.okWide P W .any base t v) : ∃ s : ByteArray, v = .string s ∧ s.size + 1 = n := by
  obtain ⟨fuel, x, hx, _, hn⟩ := h
  obtain ⟨s, hc, rfl, _⟩ := DataW.trod_string ht hx
  have := cells_one hc (ok_noagg ht rfl hv)
  subst this
  refine ⟨s, rfl, ?_⟩
  rw [← hn]
  simp only [Rows.uptoBulk, Array.length_toList]
  rfl
/-- Strings. -/
theorem rdb_strs {base : Nat} {t e : TypeId} {v : Value} {n : Nat} (ht : P.underlying t = some (.slice e)) (he : P.underlying e = some .string) (hc : P.cellsOf e = 1) (h : RdB enc P W t v n) (hv : Value.okWide P W .any base t v) :
    ∃ ps : List ByteArray, SlR W.ph v 1 (ps.map fun s => .s (.string s)) ∧ (ps.map ByteArray.size).sum + ps.length ≤ n := by
  obtain ⟨fuel, x, hx, _, hn⟩ := h
  have hw1 : ∃ w, v.cells.toList = [w] := by
    rcases DataW.trod_slice ht hx with ⟨h1, _⟩ | ⟨a, len, cap, _, _, _, _, h1, _⟩
    · exact ⟨_, h1⟩
    · exact ⟨_, h1⟩
  obtain ⟨w, hcl⟩ := hw1
  have := cells_one hcl (ok_noagg ht rfl hv)
  subst this
  rw [hcl] at hx
  rcases Go.Deep.open_slice1 ht hc hx with ⟨hv', rfl⟩ | ⟨a, len, cap, m, k, V, D, Pl, hv', _, hlc, _, hm, rfl, hel⟩
  · simp at hv'; subst hv'
    exact ⟨[], ⟨fun x hx => by simp at hx, .inl ⟨rfl, rfl⟩⟩, by simp⟩
  · simp at hv'; subst hv'
    simp only [if_true] at hm
    subst hm
    have hs : ∀ i, i < m → ∃ s : ByteArray, V i = .string s ∧ D i = .lit (.string s.data.toList) := by
      intro i hi
      obtain ⟨s, h1, h2, _⟩ := DataW.trod_string he (hel i hi).2
      simp only [List.cons.injEq, and_true] at h1
      exact ⟨s, h1, by simpa using congrArg Prod.fst h2⟩
    obtain ⟨f, hf⟩ := choose_le (p := fun i s => V i = .string s ∧ D i = .lit (.string s.data.toList)) (⟨#[]⟩ : ByteArray) m hs
    refine ⟨(List.range len).map f, ⟨fun y hy => ?_, .inr ⟨a, m, by simp, by simpa using hlc, fun h0 => ?_⟩⟩, ?_⟩
    · rw [List.map_map] at hy
      obtain ⟨i, _, rfl⟩ := List.mem_map.1 hy
      exact ⟨rfl, rfl⟩
    · obtain ⟨h1, _⟩ := hel 0 h0
      have hblk : ∃ cs e' fz, a.spot = none ∧ W.heap[a.block]? = some (.cells cs e' fz) := by
        have hab : a.add 0 = a := by simp [Addr.add]
        rw [hab] at h1
        unfold World.cell? at h1
        split at h1
        · rename_i c ty fz hb
          split at h1
          · cases h1
          · rename_i hs'
            exact ⟨c, ty, fz, by simpa using hs', hb⟩
        · cases h1
      obtain ⟨cs, e', fz, hsp, hb⟩ := hblk
      refine ⟨cs, e', fz, hsp, hb, fun j y hj => ?_⟩
      rw [List.map_map] at hj
      obtain ⟨i, k', hi, rfl, hk, hy⟩ := flats_get (z := 1) (g := (fun s : ByteArray => GV.s (.string s)) ∘ f) (fun i hi => rfl) hj
      obtain rfl : k' = 0 := by omega
      simp only [Function.comp, GV.flat, List.getElem?_cons_zero, Option.some.injEq] at hy
      subst hy
      have h2 := (hel i (by omega)).1
      rw [(hf i (by omega)).1] at h2
      unfold World.cell? at h2
      obtain ⟨b, o, sp⟩ := a
      simp only at hsp hb
      subst hsp
      rw [addr_add] at h2
      simp only [hb] at h2
      simpa [Nat.add_assoc] using h2
    · rw [← hn]
      have key : ∀ (r b : Nat), b + r ≤ m → Rows.uptoBulkAll ((List.range' b r).map D) = (((List.range' b r).map f).map ByteArray.size).sum + r := by
        intro r
        induction r with
        | zero => intro b _; simp [Rows.uptoBulkAll]
        | succ r ih =>
          intro b hb
          have := ih (b + 1) (by omega)
          rw [List.range'_succ]
          simp only [List.map_cons, Rows.uptoBulkAll, List.sum_cons, this, (hf b (by omega)).2, Rows.uptoBulk]
          have : (f b).data.toList.length = (f b).size := Array.length_toList
          omega
      have := key len 0 (by omega)
      rw [← List.range_eq_range'] at this
      simp only [Rows.uptoBulk, this, List.length_map, List.length_range]
      omega
end

theorem law_lifted_upto {C : Checked} {os : Os} {f : FuncId} {fn : Func} {s : ChangeSpec} {H : Type} {enc : TypeId × Value → H} {tb : TypeId} {ts : List TypeId} {laid : List (String × DataW Unit)} {F : Stop.Interp}
    (own : ownKnob C.prog.godebug = none) (hl : laidOutB C.prog = true) (started : os.Started) (noInit : C.prog.inits.idxOf? f = none) (hfn : C.prog.funcs[f]? = some fn)
    (witness : ∃ (w : World) (tape : Tape) (i : Input), w.os = os ∧ (w.forCall tape i).Shaped C.prog ∧ i.vars = [] ∧ Input.okWide C.prog (w.forCall tape i) .any w.heap.size f i ∧
      (Rows.OpenSpec.upto s).preRow enc C.prog fn [] false laid (w.forCall tape i).memory i.args ∧ ({} : Assume).holds C.prog (lone (Frame.enter C.prog f i.args .normal) [] (w.forCall tape i)))
    (hr : (fn.params.toList.all fun t => C.prog.readableRec t && decide (t < C.prog.types.size)) = true) (hv : s.vars = []) (hres : fn.resultTypes = #[tb]) (htb : C.prog.underlying tb = some .bool)
    (hts : fn.params.toList = ts) (hs : ∀ ds : List (DataW H), ds.length = ts.length → s.fn H ds = { results := [.lit (.bool true)], args := ds })
    (h : ∀ W base vs, RdBs enc C.prog W base ts vs 1048576 → W.ShapedOpen C.prog → Spec C.prog f vs PH.no W fun rs _ => rs = [.s (.bool true)]) :
    ReturnsInHanded {} C os f .any ((Rows.OpenSpec.upto s).preRow enc C.prog fn [] false laid) (((Rows.OpenSpec.upto s).at F).post enc C.prog fn false true false false) := by
  refine returnsInHanded_of_row (C := C) (s := Rows.OpenSpec.upto s) own started noInit hfn witness ?_
  intro W base args ds gs before hval hW _ hcond hwt _ hsh _
  have hW' := hW
  obtain ⟨p, q, hA, hV, rfl, hfz, hnd⟩ := hW'
  have hv' : (Rows.OpenSpec.upto s).vars = [] := hv
  rw [hv'] at hV
  obtain ⟨rfl, rfl⟩ := trodVars_none hV
  have hvt : (Rows.OpenSpec.upto s).bare.plain.varTypes C.prog = [] := by
    have : (Rows.OpenSpec.upto s).bare.plain.vars = [] := hv
    simp [DataSpec.varTypes, this]
  rw [hvt, List.append_nil, List.append_nil] at hwt
  have hk := of_decide_eq_true (hcond _ rfl)
  rw [List.append_nil] at hk
  have hlen := trodAll_len hA
  exact (contract_true (s := s) (again := false) hl hr hv hres htb (by rw [List.append_nil]; exact hs ds (by rw [hlen, hts])) hW (h W base args.toList (hts ▸ args_rdb (fun j t v h1 h2 => hval j t v (by simpa using h1) (by simpa using h2)) hA hwt hk) hsh)).mono fun e W' ⟨v, h1, h2, _⟩ => ⟨v, h1, h2⟩
end Go.Proofs.YtnoeabmpdjpfaaaDoor.Vc

/- A law's row out of its contract, over listed variables, in the first form. -/
set_option linter.unusedVariables false
set_option linter.unusedSimpArgs false
namespace Go.Proofs.YtnoeabmpdjpfaaaDoor.Vc
open Go Go.Proofs Go.Proofs.YtnoeabmpdjpfaaaDoor Go.ChangeShapes Go.WideShapes Go.ChangeAt

theorem law_lifted_laid {C : Checked} {os : Os} {f : FuncId} {fn : Func} {s : ChangeSpec} {H : Type} {enc : TypeId × Value → H} {tb : TypeId} {ts : List TypeId} {laid : List (String × DataW Unit)} {F : Stop.Interp}
    (own : ownKnob C.prog.godebug = none) (hl : laidOutB C.prog = true) (started : os.Started) (noInit : C.prog.inits.idxOf? f = none) (hfn : C.prog.funcs[f]? = some fn)
    (witness : ∃ (w : World) (tape : Tape) (i : Input), w.os = os ∧ (w.forCall tape i).Shaped C.prog ∧ i.vars = [] ∧ Input.okWide C.prog (w.forCall tape i) .any w.heap.size f i ∧
      (OpenSpec.ofChange s).preRow enc C.prog fn [] false laid (w.forCall tape i).memory i.args ∧ ({} : Assume).holds C.prog (lone (Frame.enter C.prog f i.args .normal) [] (w.forCall tape i)))
    (hr : (fn.params.toList.all fun t => C.prog.readableRec t && decide (t < C.prog.types.size)) = true) (hv : s.vars = []) (hres : fn.resultTypes = #[tb]) (htb : C.prog.underlying tb = some .bool)
    (hts : fn.params.toList = ts) (hs : ∀ ds : List (DataW H), ds.length = ts.length → s.fn H ds = { results := [.lit (.bool true)], args := ds })
    (h : ∀ W base vs, RdVs enc C.prog W base ts vs → W.ShapedOpen C.prog → Spec C.prog f vs PH.no W fun rs _ => rs = [.s (.bool true)]) :
    ReturnsInHanded {} C os f .any ((OpenSpec.ofChange s).preRow enc C.prog fn [] false laid) (((OpenSpec.ofChange s).at F).post enc C.prog fn false true false false) := by
  refine returnsInHanded_of_row (C := C) (s := OpenSpec.ofChange s) own started noInit hfn witness ?_
  intro W base args ds gs before hval hW _ hcond hwt _ hsh _
  have hW' := hW
  obtain ⟨p, q, hA, hV, rfl, hfz, hnd⟩ := hW'
  have hv' : (OpenSpec.ofChange s).vars = [] := hv
  rw [hv'] at hV
  obtain ⟨rfl, rfl⟩ := trodVars_none hV
  have hvt : (OpenSpec.ofChange s).bare.plain.varTypes C.prog = [] := by
    have : (OpenSpec.ofChange s).bare.plain.vars = [] := hv
    simp [DataSpec.varTypes, this]
  rw [hvt, List.append_nil, List.append_nil] at hwt
  have hlen := trodAll_len hA
  exact (contract_true (s := s) (again := false) hl hr hv hres htb (by rw [List.append_nil]; exact hs ds (by rw [hlen, hts])) hW (h W base args.toList (hts ▸ args_rd (fun j t v h1 h2 => hval j t v (by simpa using h1) (by simpa using h2)) hA hwt) hsh)).mono fun e W' ⟨v, h1, h2, _⟩ => ⟨v, h1, h2⟩
end Go.Proofs.YtnoeabmpdjpfaaaDoor.Vc

/- PathNone: the law answers true and leaves its arguments as they were: the first form, and its card. -/
set_option linter.unusedVariables false
set_option linter.unusedSimpArgs false
set_option maxRecDepth 100000
namespace Go.Proofs.YtnoeabmpdjpfaaaDoor.Vc
open Go Go.Proofs Go.Proofs.YtnoeabmpdjpfaaaDoor Go.ChangeShapes Go.WideShapes Go.ChangeAt

theorem Tryd_own : ownKnob Tryd.prog.godebug = none := by kernel_rfl
theorem Tryd_laidOut : laidOutB Tryd.prog = true := by kernel_rfl
/-- The library's one variable holds some number. -/
theorem globI {W : World} (h : W.ShapedOpen Tryd.prog) : GlobI W.ph := by
  obtain ⟨m, hm⟩ := cell_of_shapedOpen_int (P := Tryd.prog) (g := 0) (t := 3) (zero := #[.int .i64 0]) h (of_decide_eq_true (by kernel_rfl)) (by kernel_rfl) rfl (by kernel_rfl) (by kernel_rfl) Tryd.underlying3
  unfold World.cell? at hm
  split at hm
  · rename_i c ty fz hb
    simp only [Option.isSome_none, Bool.false_eq_true, if_false] at hm
    exact ⟨c, ty, fz, m, hb, hm⟩
  · cases hm
theorem PathNone_open {H : Type} (enc : TypeId × Value → H) (W : World) (base : Nat) (vs : List Value) (h : RdVs enc Tryd.prog W base [9, 2] vs) (hsh : W.ShapedOpen Tryd.prog) : Spec Tryd.prog f_law20_PathNone vs PH.no W fun rs _ => rs = [.s (.bool true)] := by
  obtain ⟨v1, vs, rfl, h1, g1, h⟩ := rdvs_cons h
  obtain ⟨v2, vs, rfl, h2, g2, h⟩ := rdvs_cons h
  obtain rfl := rdvs_nil h
  obtain ⟨⟨s, rfl, _⟩, _⟩ := rdv_sc (k := .s) (by kernel_rfl) (by kernel_rfl) h1 g1
  obtain ⟨⟨k, rfl, _⟩, _⟩ := rdv_sc (k := .i .i64) (by kernel_rfl) (by kernel_rfl) h2 g2
  exact PathNone_spec W s k W.ph (fun _ _ h => h) (globI hsh)

/-! ### A world for the witness -/
noncomputable def laidWorld (os : Os) : World :=
  let w0 := World.holding Tryd.prog os ⟨#[], #[], []⟩
  let put (h : Array Obj) (g : Nat) (cs : Array Value) : Array Obj := h.modify g fun
    | .cells _ t frozen => .cells cs t frozen
    | o => o
  let h1 := put w0.heap 1 (Pinned.utf8FirstZ.map fun z : Nat => Value.int .u8 (z : Int)).toArray
  let h2 := put h1 2 (([128, 191, 160, 191, 128, 159, 144, 191, 128, 143, 0, 0, 0, 0, 0, 0, 0, 0, 0, 0, 0, 0, 0, 0, 0, 0, 0, 0, 0, 0, 0, 0] : List Nat).map fun z : Nat => Value.int .u8 (z : Int)).toArray
  { w0 with heap := h2 }
theorem laid_met1 (os : Os) (args : Array Value) : laidMet Tryd.prog Rows.pathNoneRow.laid ((laidWorld os).forCall (fun _ _ => 0) ⟨#[], args, []⟩).memory :=
  laidMet_of_run' 8 (by kernel_rfl) (by kernel_rfl)

theorem PathNone_reads (os : Os) {H : Type} (enc : TypeId × Value → H) : ∃ places, DataW.whole enc Tryd.prog ((laidWorld os).forCall (fun _ _ => 0) ⟨#[], #[.string ⟨#[]⟩, .int .i64 0], []⟩).memory Tryd.f3.params.toList Rows.pathNoneSpec.vars false #[Value.string ⟨#[]⟩, .int .i64 0].toList 8 = some ([.lit (.string []), .lit (.int .i64 0)], [], places) :=
  ⟨[], by kernel_rfl⟩
theorem PathNone_lifted (os : Os) (started : os.Started) (H : Type) (enc : TypeId × Value → H) (F : Stop.Interp) :
    ReturnsInHanded {} Tryd.checked os f_law20_PathNone .any ((OpenSpec.ofChange Rows.pathNoneSpec).preRow enc Tryd.prog Tryd.f3 Rows.pathNoneRow.domain false Rows.pathNoneRow.laid) (((OpenSpec.ofChange Rows.pathNoneSpec).at F).post enc Tryd.prog Tryd.f3 false true false false) := by
  obtain ⟨places, hx⟩ := PathNone_reads os enc
  exact law_lifted_laid (C := Tryd.checked) Tryd_own Tryd_laidOut started (by kernel_rfl) Tryd.func3
    (witness_row_at (enc := enc) (C := Tryd.checked) false (laidWorld os) #[.string ⟨#[]⟩, .int .i64 0] rfl (by kernel_rfl) (by kernel_rfl) (by kernel_rfl)
      (OpenSpec.preRow_of_cond 8 hx (by kernel_rfl) (fun k hk => by cases hk) (by kernel_rfl) (laid_met1 os _)))
    (by kernel_rfl) rfl (tb := 4) (by kernel_rfl) (by kernel_rfl) (ts := [9, 2]) (by kernel_rfl) (fun ds h => by match ds, h with | [d0, d1], _ => rfl) (PathNone_open enc)
theorem PathNone_holds : Rows.PathNoneSaid :=
  OpenClaim.holds_of_cond f_law20_PathNone Tryd.f3 rfl rfl rfl rfl rfl rfl rfl ⟨rfl, rfl, rfl, rfl, rfl⟩ rfl rfl rfl rfl rfl (by kernel_rfl) Tryd.func3 (by kernel_rfl)
    (of_decide_eq_true (by kernel_rfl)) (by unfold Func.isWrapper; first | (rw [if_pos (by decide +kernel)]; kernel_rfl) | (rw [if_neg (by decide +kernel)]; exact ⟨rfl, rfl⟩))
    (fun os started H enc _ F => by rw [OpenClaim.pre_eq_preRow]; exact PathNone_lifted os started H enc F)
theorem PathNone_plain (f : FuncId) (fn : Func) (hf : Tryd.pinned.checked.prog.funcNamed "orchard/orchardlaw20.PathNone" = some f) (hfn : Tryd.pinned.checked.prog.funcs[f]? = some fn) :
    false = Tryd.pinned.checked.prog.looks [] ∧ ∀ (j : Nat) t, fn.params[j]? = some t → Tryd.pinned.checked.prog.wantsStandIn t = false := by
  obtain rfl : f = 3 := Option.some.inj ((show Tryd.prog.funcNamed "orchard/orchardlaw20.PathNone" = some 3 by kernel_rfl).symm.trans hf) |>.symm
  obtain rfl : fn = Tryd.f3 := (Option.some.inj (Tryd.func3.symm.trans hfn)).symm
  refine ⟨by kernel_rfl, fun j t ht => ?_⟩
  have hall : (Tryd.f3.params.toList.all fun t => !Tryd.pinned.checked.prog.wantsStandIn t) = true := by kernel_rfl
  have := List.all_eq_true.1 hall t (List.mem_of_getElem? (by simpa using ht))
  simpa using this
theorem PathNone_card : Rows.PathNoneCardSaid :=
  Claim7.holds_tied_plain_at .later [] _ _ _ _ PathNone_holds (fun _ h => by cases h) (by kernel_rfl) (fun _ h => by cases h) pathNone_row_tie rfl ⟨rfl, rfl⟩ (by kernel_rfl) rfl PathNone_plain (by kernel_rfl)
#print axioms PathNone_card
end Go.Proofs.YtnoeabmpdjpfaaaDoor.Vc

