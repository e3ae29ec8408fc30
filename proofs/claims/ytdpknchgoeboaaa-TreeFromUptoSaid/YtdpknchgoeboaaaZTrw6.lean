/- Rows of nodes that came in. -/
import Derived.Test.YtdpknchgoeboaaaZTrw5
/- Rows of nodes that came in. -/
set_option linter.unusedVariables false
set_option linter.unusedSimpArgs false
set_option maxRecDepth 100000
namespace Go.Proofs.Ytdpknchgoeboaaa.Vc
open Go Go.Proofs Go.Proofs.Ytdpknchgoeboaaa Go.ChangeShapes Go.WideShapes Go.ChangeAt

def Attr.ofRaw (q : Raw) : Attr := ⟨q.y 0, q.y 1⟩
def kAttr : List K1 := [.s, .s]
theorem gAttr_flat (q : Raw) : GV.flat (gAttr (Attr.ofRaw q)) = q.cells kAttr 0 := rfl
def TreeNode.ofRaw (q : Raw) : TreeNode := ⟨q.x 0, q.x 1, q.y 2, q.v 3⟩
def kTN : List K1 := [.i .i64, .i .i64, .s, .sl 60]
theorem gTreeNode_flat (q : Raw) : GV.flat (gTreeNode (TreeNode.ofRaw q)) = q.cells kTN 0 := rfl
theorem cells_Attr : Try.prog.cellsOf 103 = 2 := by kernel_rfl
theorem cells_TN : Try.prog.cellsOf 62 = 4 := by kernel_rfl

theorem open_Attrs {H : Type} {enc : TypeId × Value → H} {W : World} {v : Value} {n : Nat} (h : RdTB enc Try.prog W 60 v n) : ∃ l : List Attr, SlR W.ph v 2 (l.map gAttr) ∧ l.length ≤ n ∧ ∀ a ∈ l, a.key.size ≤ n ∧ a.value.size ≤ n := by
  obtain ⟨l, h1, h2, h3⟩ := rd_sliceB (t := 60) (e := 103) (n0 := 9) (ks := kAttr) (g := fun q => gAttr (Attr.ofRaw q)) (by kernel_rfl) (by kernel_rfl) (by kernel_rfl) (by rw [cells_Attr]; omega) (fun q => gAttr_flat q) (fun q _ => gAttr_ok _) (fun q => by rw [gAttr_sz, cells_Attr]) h
  rw [cells_Attr] at h1
  refine ⟨l.map Attr.ofRaw, by rw [List.map_map]; exact h1, by rw [List.length_map]; exact h2, fun a ha => ?_⟩
  obtain ⟨q, hq, rfl⟩ := List.mem_map.1 ha
  exact ⟨(h3 q hq).2.str (j := 0) rfl, (h3 q hq).2.str (j := 1) rfl⟩
theorem open_Rows {H : Type} {enc : TypeId × Value → H} {W : World} {base n : Nat} {v : Value} (h : RdB enc Try.prog W 29 v n) (hv : Value.okWide Try.prog W .any base 29 v) (hn : n ≤ 1048576) : ∃ ts l, RowsIn W.ph v ts l 1048576 := by
  have hd := rdtb_of (e := 62) (by kernel_rfl) h hv
  obtain ⟨l, h1, h2, h3⟩ := rd_sliceB (t := 29) (e := 62) (n0 := 9) (ks := kTN) (g := fun q => gTreeNode (TreeNode.ofRaw q)) (by kernel_rfl) (by kernel_rfl) (by kernel_rfl) (by rw [cells_TN]; omega) (fun q => gTreeNode_flat q) (fun q hq => gTreeNode_ok _ (hq 3 _ rfl)) (fun q => by rw [gTreeNode_sz, cells_TN]) hd
  rw [cells_TN] at h1
  have key : ∀ l : List Raw, (∀ q ∈ l, Fine enc Try.prog W kTN q ∧ FineB enc Try.prog W n kTN q) → ∃ r : List TN, TsOk W.ph (l.map TreeNode.ofRaw) r ∧ ∀ x ∈ r, x.attrs.length ≤ 1048576 ∧ (∀ a ∈ x.attrs, a.key.size ≤ 140737488355328 ∧ a.value.size ≤ 140737488355328) ∧ x.name.size ≤ 140737488355328 ∧ (Lit.int .i64 x.node).wf = true := by
    intro l
    induction l with
    | nil => intro _; exact ⟨[], trivial, by simp⟩
    | cons q l ih =>
      intro hl
      obtain ⟨r, hr1, hr2⟩ := ih fun x hx => hl x (by simp [hx])
      obtain ⟨f1, f2⟩ := hl q (by simp)
      obtain ⟨m, hm, hrd⟩ := f2.rd (j := 3) rfl
      obtain ⟨la, g1, g2, g3⟩ := open_Attrs hrd
      refine ⟨⟨q.x 0, q.x 1, q.y 2, la⟩ :: r, ⟨⟨rfl, rfl, rfl, g1⟩, hr1⟩, fun x hx => ?_⟩
      rcases List.mem_cons.1 hx with rfl | hx
      · refine ⟨by simp only; omega, fun a ha => ?_, ?_, ?_⟩
        · have := g3 a ha; omega
        · have := f2.str (j := 2) rfl
          simp only; omega
        · have := f1.int (j := 0) (k := .i64) rfl
          show (decide (IntKind.i64.min ≤ q.x 0) && decide (q.x 0 ≤ IntKind.i64.max)) = true
          rw [Bool.and_eq_true]
          exact ⟨decide_eq_true this.1, decide_eq_true this.2⟩
      · exact hr2 x hx
  obtain ⟨r, hr1, hr2⟩ := key l h3
  have hlen := hr1.len
  rw [List.length_map] at hlen
  exact ⟨l.map TreeNode.ofRaw, r, ⟨by rw [List.map_map]; exact h1, hr1, by omega, fun x hx => (hr2 x hx).1, fun x hx => (hr2 x hx).2.1, fun x hx => (hr2 x hx).2.2.1, fun x hx => (hr2 x hx).2.2.2⟩⟩

theorem TreeFrom_open {H : Type} (enc : TypeId × Value → H) (W : World) (base : Nat) (vs : List Value) (h : RdBs enc Try.prog W base [29, 29, 24] vs 1048576) (_ : W.ShapedOpen Try.prog) : Spec Try.prog f_law12_TreeFrom vs PH.no W fun rs _ => rs = [.s (.bool true)] := by
  obtain ⟨v1, vs, a, b, rfl, hab, h1, g1, h⟩ := rdbs_cons h
  obtain ⟨v2, vs, a2, b2, rfl, hab2, h2, g2, h⟩ := rdbs_cons h
  obtain ⟨v3, vs, a3, b3, rfl, hab3, h3, g3, h⟩ := rdbs_cons h
  obtain rfl := rdbs_nil h
  obtain ⟨ta, la, ka⟩ := open_Rows h1 g1 (by omega)
  obtain ⟨tb, lb, kb⟩ := open_Rows h2 g2 (by omega)
  obtain ⟨ops, k3, l3, o3⟩ := open_Ops h3 g3
  exact from_walk W v1 v2 v3 ta tb la lb ops W.ph (fun _ _ h => h) ka kb k3 (by omega) o3
theorem TreeFrom_reads (os : Os) {H : Type} (enc : TypeId × Value → H) : ∃ places, DataW.whole enc Try.prog ((World.holding Try.prog os ⟨#[], #[], []⟩).forCall (fun _ _ => 0) ⟨#[], #[.slice none 0 0, .slice none 0 0, .slice none 0 0], []⟩).memory Try.f5.params.toList Rows.treeFromSpec.vars false (#[.slice none 0 0, .slice none 0 0, .slice none 0 0] : Array Value).toList 8 = some ([.nil, .nil, .nil], [], places) :=
  ⟨[], by kernel_rfl⟩
theorem TreeFrom_lifted (os : Os) (started : os.Started) (H : Type) (enc : TypeId × Value → H) (F : Stop.Interp) :
    ReturnsInHanded {} Try.checked os f_law12_TreeFrom .any ((Rows.OpenSpec.upto Rows.treeFromSpec).preRow enc Try.prog Try.f5 Rows.treeFromUptoRow.domain false Rows.treeFromUptoRow.laid) (((Rows.OpenSpec.upto Rows.treeFromSpec).at F).post enc Try.prog Try.f5 false true false false) := by
  obtain ⟨places, hx⟩ := TreeFrom_reads os enc
  exact law_lifted_upto (C := Try.checked) Try_own Try_laidOut started (by kernel_rfl) Try.func5
    (witness_row_at (enc := enc) (C := Try.checked) false (World.holding Try.prog os ⟨#[], #[], []⟩) #[.slice none 0 0, .slice none 0 0, .slice none 0 0] rfl (by kernel_rfl) (by kernel_rfl) (by kernel_rfl)
      (OpenSpec.preRow_of_cond 8 hx (by kernel_rfl) (fun k hk => by cases hk; kernel_rfl) (by kernel_rfl) (laidMet_of_run' 8 (by kernel_rfl) (by kernel_rfl))))
    (by kernel_rfl) rfl (tb := 4) (by kernel_rfl) (by kernel_rfl) (ts := [29, 29, 24]) (by kernel_rfl) (fun ds h => by match ds, h with | [d0, d1, d2], _ => rfl) (TreeFrom_open enc)
theorem TreeFrom_upto : Rows.TreeFromUptoSaid :=
  OpenClaim.holds_of_cond f_law12_TreeFrom Try.f5 rfl rfl rfl rfl rfl rfl rfl ⟨rfl, rfl, rfl, rfl, rfl⟩ rfl rfl rfl rfl rfl (by kernel_rfl) Try.func5 (by kernel_rfl)
    (of_decide_eq_true (by kernel_rfl)) (by unfold Func.isWrapper; first | (rw [if_pos (by decide +kernel)]; kernel_rfl) | (rw [if_neg (by decide +kernel)]; exact ⟨rfl, rfl⟩))
    (fun os started H enc _ F => by rw [OpenClaim.pre_eq_preRow]; exact TreeFrom_lifted os started H enc F)
#print axioms TreeFrom_upto
end Go.Proofs.Ytdpknchgoeboaaa.Vc

