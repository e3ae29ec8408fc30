/- TreeBack: where what is read is of bulk at most the row's bound, the law answers true and leaves its arguments as they were. -/
import Derived.Test.YtdpknchgoeboaaaTb6
import Derived.Test.YtdpknchgoeboaaaVlu
import Derived.LaidLaws
set_option linter.unusedVariables false
set_option linter.unusedSimpArgs false
set_option maxRecDepth 100000
namespace Go.Proofs.Ytdpknchgoeboaaa.Vc
open Go Go.Proofs Go.Proofs.Ytdpknchgoeboaaa Go.ChangeShapes Go.WideShapes Go.ChangeAt

def Stamp.ofRaw (q : Raw) (o : Nat) : Stamp := ⟨q.x o, q.x (o + 1)⟩
def kStamp : List K1 := [.i .i64] ++ ([.i .i64])
theorem kStamp_len : kStamp.length = 2 := rfl
theorem gStamp_flat (q : Raw) (o : Nat) : GV.flat (gStamp (Stamp.ofRaw q o)) = q.cells kStamp o := by
  simp only [gStamp, Stamp.ofRaw, kStamp, GV.flat, cells_append, List.length_append, List.length_cons, List.length_nil, kVec_len, kVec2_len, gVec_flat, gVec2_flat]
  simp [Raw.cells, Raw.at, Nat.add_assoc]
def Op.ofRaw (q : Raw) (o : Nat) : Op := ⟨Stamp.ofRaw q o, q.x (o + 2), q.x (o + 3), q.x (o + 4), q.y (o + 5), q.y (o + 6), q.y (o + 7)⟩
def kOp : List K1 := kStamp ++ ([.i .i64] ++ ([.i .i64] ++ ([.i .i64] ++ ([.s] ++ ([.s] ++ ([.s]))))))
theorem kOp_len : kOp.length = 8 := rfl
theorem gOp_flat (q : Raw) (o : Nat) : GV.flat (gOp (Op.ofRaw q o)) = q.cells kOp o := by
  simp only [gOp, Op.ofRaw, kOp, GV.flat, cells_append, List.length_append, List.length_cons, List.length_nil, kVec_len, kVec2_len, kStamp_len, gVec_flat, gVec2_flat, gStamp_flat]
  simp [Raw.cells, Raw.at, Nat.add_assoc]


theorem Try_own : ownKnob Try.prog.godebug = none := by kernel_rfl
theorem Try_laidOut : laidOutB Try.prog = true := by kernel_rfl
theorem cells_Op : Try.prog.cellsOf 35 = 8 := by kernel_rfl

theorem bulk_len {H : Type} (l : List (DataW H)) : l.length ≤ Rows.uptoBulkAll l := by
  induction l with
  | nil => simp
  | cons x l ih => have := bulk_one_le x; simp only [Rows.uptoBulkAll, List.length_cons]; omega

/-- A list of operations that came in. -/
theorem open_Ops {H : Type} {enc : TypeId × Value → H} {W : World} {base n : Nat} {v : Value} (h : RdB enc Try.prog W 24 v n) (hv : Value.okWide Try.prog W .any base 24 v) : ∃ l : List Op, SlR W.ph v 8 (l.map gOp) ∧ l.length ≤ n ∧ ∀ op ∈ l, OpOk op := by
  have hd := rdv_slice (e := 35) (by kernel_rfl) h.v hv
  obtain ⟨l, h1, _, h3⟩ := rd_slice (t := 24) (e := 35) (n0 := 9) (ks := kOp) (g := fun q => gOp (Op.ofRaw q 0)) (by kernel_rfl) (by kernel_rfl) (by kernel_rfl) (by rw [cells_Op]; omega) (fun q => gOp_flat q 0) (fun q _ => gOp_ok _) (fun q => by rw [gOp_sz, cells_Op]) hd
  rw [cells_Op] at h1
  refine ⟨l.map fun q => Op.ofRaw q 0, by rw [List.map_map]; exact h1, ?_, ?_⟩
  · obtain ⟨fuel, x, hx, _, hn⟩ := h
    obtain ⟨_, h1 | ⟨a, c, h1, _⟩⟩ := h1
    · have : l = [] := by simpa using h1.2
      simp [this]
    · subst h1
      have hx' : DataW.trod enc Try.prog W 0 (fun _ => true) true fuel 24 [.slice (some a) (l.map fun q => gOp (Op.ofRaw q 0)).length c] = some x := hx
      rcases Go.Deep.open_slice (e := 35) (by kernel_rfl) hx' with ⟨hv', rfl⟩ | ⟨a', len, cap, m, n', D, Pl, hv', _, hlc, _, hm, rfl, hel⟩
      · simp at hv'
      · simp only [List.cons.injEq, Value.slice.injEq, and_true, List.length_map] at hv'
        have h5 := bulk_len ((List.range len).map D)
        rw [List.length_map, List.length_range] at h5
        simp only [Rows.uptoBulk] at hn
        rw [List.length_map]
        omega
  · intro op hop
    obtain ⟨q, hq, rfl⟩ := List.mem_map.1 hop
    have hf := h3 q hq
    refine ⟨?_, ?_⟩
    · have := hf.int (j := 3) (k := .i64) rfl
      show (decide (IntKind.i64.min ≤ q.x 3) && decide (q.x 3 ≤ IntKind.i64.max)) = true
      rw [Bool.and_eq_true]
      exact ⟨decide_eq_true this.1, decide_eq_true this.2⟩
    · have := hf.str (j := 5) rfl
      exact Nat.le_trans this (by decide)

theorem TreeBack_open {H : Type} (enc : TypeId × Value → H) (W : World) (base : Nat) (vs : List Value) (h : RdBs enc Try.prog W base [24, 24] vs 1048576) (_ : W.ShapedOpen Try.prog) : Spec Try.prog f_law12_TreeBack vs PH.no W fun rs _ => rs = [.s (.bool true)] := by
  obtain ⟨v1, vs, a, b, rfl, hab, h1, g1, h⟩ := rdbs_cons h
  obtain ⟨v2, vs, a2, b2, rfl, hab2, h2, g2, h⟩ := rdbs_cons h
  obtain rfl := rdbs_nil h
  obtain ⟨bs, k1, l1, o1⟩ := open_Ops h1 g1
  obtain ⟨ops, k2, l2, o2⟩ := open_Ops h2 g2
  exact back_walk W v1 v2 bs ops (by omega) (by omega) o1 o2 W.ph (fun _ _ h => h) k1 k2

theorem TreeBack_reads (os : Os) {H : Type} (enc : TypeId × Value → H) : ∃ places, DataW.whole enc Try.prog ((World.holding Try.prog os ⟨#[], #[], []⟩).forCall (fun _ _ => 0) ⟨#[], #[.slice none 0 0, .slice none 0 0], []⟩).memory Try.f4.params.toList Rows.treeBackSpec.vars false #[Value.slice none 0 0, .slice none 0 0].toList 8 = some ([.nil, .nil], [], places) :=
  ⟨[], by kernel_rfl⟩
theorem TreeBack_lifted (os : Os) (started : os.Started) (H : Type) (enc : TypeId × Value → H) (F : Stop.Interp) :
    ReturnsInHanded {} Try.checked os f_law12_TreeBack .any ((Rows.OpenSpec.upto Rows.treeBackSpec).preRow enc Try.prog Try.f4 Rows.treeBackUptoRow.domain false Rows.treeBackUptoRow.laid) (((Rows.OpenSpec.upto Rows.treeBackSpec).at F).post enc Try.prog Try.f4 false true false false) := by
  obtain ⟨places, hx⟩ := TreeBack_reads os enc
  exact law_lifted_upto (C := Try.checked) Try_own Try_laidOut started (by kernel_rfl) Try.func4
    (witness_row_at (enc := enc) (C := Try.checked) false (World.holding Try.prog os ⟨#[], #[], []⟩) #[.slice none 0 0, .slice none 0 0] rfl (by kernel_rfl) (by kernel_rfl) (by kernel_rfl)
      (OpenSpec.preRow_of_cond 8 hx (by kernel_rfl) (fun k hk => by cases hk; kernel_rfl) (by kernel_rfl) (laidMet_of_run' 8 (by kernel_rfl) (by kernel_rfl))))
    (by kernel_rfl) rfl (tb := 4) (by kernel_rfl) (by kernel_rfl) (ts := [24, 24]) (by kernel_rfl) (fun ds h => by match ds, h with | [d0, d1], _ => rfl) (TreeBack_open enc)
theorem TreeBack_upto : Rows.TreeBackUptoSaid :=
  OpenClaim.holds_of_cond f_law12_TreeBack Try.f4 rfl rfl rfl rfl rfl rfl rfl ⟨rfl, rfl, rfl, rfl, rfl⟩ rfl rfl rfl rfl rfl (by kernel_rfl) Try.func4 (by kernel_rfl)
    (of_decide_eq_true (by kernel_rfl)) (by unfold Func.isWrapper; first | (rw [if_pos (by decide +kernel)]; kernel_rfl) | (rw [if_neg (by decide +kernel)]; exact ⟨rfl, rfl⟩))
    (fun os started H enc _ F => by rw [OpenClaim.pre_eq_preRow]; exact TreeBack_lifted os started H enc F)
#print axioms TreeBack_upto
end Go.Proofs.Ytdpknchgoeboaaa.Vc
