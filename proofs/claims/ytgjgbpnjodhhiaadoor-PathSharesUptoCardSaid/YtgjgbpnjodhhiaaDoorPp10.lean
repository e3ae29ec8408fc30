/- The four laws as stated: the arguments, a world for the witness, the cards. -/
import Derived.Test.YtgjgbpnjodhhiaaDoorPp9
import Derived.Test.YtgjgbpnjodhhiaaDoorVlu
import Derived.Test.YtgjgbpnjodhhiaaDoorCards
import Derived.Test.YtgjgbpnjodhhiaaDoorTie
import Derived.Deep.DeepWitnessRowRef
import Derived.Shelf.Vars
set_option linter.unusedVariables false
set_option linter.unusedSimpArgs false
set_option maxRecDepth 100000
namespace Go.Proofs.YtgjgbpnjodhhiaaDoor.Vc
open Go Go.Proofs Go.Proofs.YtgjgbpnjodhhiaaDoor Go.ChangeShapes Go.WideShapes Go.ChangeAt

theorem Tryd_own : ownKnob Tryd.prog.godebug = none := by kernel_rfl
theorem Tryd_laidOut : laidOutB Tryd.prog = true := by kernel_rfl

/-- The library's one variable holds some number. -/
theorem globI {W : World} (h : W.ShapedOpen Tryd.prog) : GlobI W.ph := by
  obtain ⟨m, hm⟩ := cell_of_shapedOpen_int (P := Tryd.prog) (g := 0) (t := 3) (zero := #[.int .i64 0]) h (of_decide_eq_true (by kernel_rfl)) (by kernel_rfl) rfl (by kernel_rfl) (by kernel_rfl) Tryd.underlying3
  unfold World.cell? at hm
  split at hm
  · rename_i c ty fz hb
    simp only [Option.isSome_none, Bool.false_eq_true, if_false] at hm
    exact ⟨c, ty, fz, m, hb, hm⟩
  · cases hm

theorem as_names (ps : List ByteArray) : (ps.map fun s => GV.s (.string s)) = (ps.map fun s => s.data.toList).map gN := by
  rw [List.map_map]; rfl
theorem sum_names (ps : List ByteArray) : sumL (ps.map fun s => s.data.toList) = (ps.map ByteArray.size).sum + ps.length := by
  unfold sumL
  rw [List.map_map, List.length_map]
  have : (ps.map (List.length ∘ fun s : ByteArray => s.data.toList)) = ps.map ByteArray.size := List.map_congr_left fun s _ => Array.length_toList
  rw [this]
section
variable {H : Type} {enc : TypeId × Value → H} {W : World} {base n : Nat} {v : Value}
theorem open_path (h : RdB enc Tryd.prog W 9 v n) (hv : Value.okWide Tryd.prog W .any base 9 v) : ∃ p : List UInt8, v = .string (mkS p) ∧ p.length + 1 = n := by
  obtain ⟨s, rfl, hs⟩ := rdb_str (by kernel_rfl) h hv
  exact ⟨s.data.toList, by rw [mkS_of], by rw [Array.length_toList]; exact hs⟩
theorem open_paths (h : RdB enc Tryd.prog W 22 v n) (hv : Value.okWide Tryd.prog W .any base 22 v) : ∃ ps : List (List UInt8), SlR W.ph v 1 (ps.map gN) ∧ sumL ps ≤ n := by
  obtain ⟨ps, h1, h2⟩ := rdb_strs (e := 9) (by kernel_rfl) (by kernel_rfl) (by kernel_rfl) h hv
  exact ⟨ps.map fun s => s.data.toList, by rw [← as_names]; exact h1, by rw [sum_names]; exact h2⟩
end

theorem PathSplits_open {H : Type} (enc : TypeId × Value → H) (W : World) (base : Nat) (vs : List Value) (h : RdBs enc Tryd.prog W base [9, 22] vs 1048576) (hsh : W.ShapedOpen Tryd.prog) : Spec Tryd.prog f_law20_PathSplits vs PH.no W fun rs _ => rs = [.s (.bool true)] := by
  obtain ⟨v1, vs, a, b, rfl, hab, h1, g1, h⟩ := rdbs_cons h
  obtain ⟨v2, vs, a2, b2, rfl, hab2, h2, g2, h⟩ := rdbs_cons h
  obtain rfl := rdbs_nil h
  obtain ⟨p, rfl, hp⟩ := open_path h1 g1
  obtain ⟨ns, h3, h4⟩ := open_paths h2 g2
  exact PathSplits_spec W p v2 ns (by omega) (by omega) W.ph (fun _ _ h => h) (globI hsh) h3
theorem PathBack_open {H : Type} (enc : TypeId × Value → H) (W : World) (base : Nat) (vs : List Value) (h : RdBs enc Tryd.prog W base [9, 22] vs 1048576) (hsh : W.ShapedOpen Tryd.prog) : Spec Tryd.prog f_law20_PathBack vs PH.no W fun rs _ => rs = [.s (.bool true)] := by
  obtain ⟨v1, vs, a, b, rfl, hab, h1, g1, h⟩ := rdbs_cons h
  obtain ⟨v2, vs, a2, b2, rfl, hab2, h2, g2, h⟩ := rdbs_cons h
  obtain rfl := rdbs_nil h
  obtain ⟨p, rfl, hp⟩ := open_path h1 g1
  obtain ⟨ns, h3, h4⟩ := open_paths h2 g2
  exact PathBack_spec W p v2 ns (by omega) (by omega) W.ph (fun _ _ h => h) (globI hsh) h3
theorem PathCommon_open {H : Type} (enc : TypeId × Value → H) (W : World) (base : Nat) (vs : List Value) (h : RdBs enc Tryd.prog W base [22] vs 1048576) (hsh : W.ShapedOpen Tryd.prog) : Spec Tryd.prog f_law20_PathCommon vs PH.no W fun rs _ => rs = [.s (.bool true)] := by
  obtain ⟨v1, vs, a, b, rfl, hab, h1, g1, h⟩ := rdbs_cons h
  obtain rfl := rdbs_nil h
  obtain ⟨ps, h3, h4⟩ := open_paths h1 g1
  have hl := sumL_len ps
  exact PathCommon_spec W v1 ps (by omega) (fun p hp => by have := sumL_mem hp; omega) W.ph (fun _ _ h => h) (globI hsh) h3
theorem PathShares_open {H : Type} (enc : TypeId × Value → H) (W : World) (base : Nat) (vs : List Value) (h : RdBs enc Tryd.prog W base [22, 3] vs 1048576) (hsh : W.ShapedOpen Tryd.prog) : Spec Tryd.prog f_law20_PathShares vs PH.no W fun rs _ => rs = [.s (.bool true)] := by
  obtain ⟨v1, vs, a, b, rfl, hab, h1, g1, h⟩ := rdbs_cons h
  obtain ⟨v2, vs, a2, b2, rfl, hab2, h2, g2, h⟩ := rdbs_cons h
  obtain rfl := rdbs_nil h
  obtain ⟨ps, h3, h4⟩ := open_paths h1 g1
  obtain ⟨⟨k, rfl, _⟩, _⟩ := rdv_sc (k := .i .i64) (by kernel_rfl) (by kernel_rfl) h2.v g2
  have hl := sumL_len ps
  exact PathShares_spec W v1 ps k (by omega) (fun p hp => by have := sumL_mem hp; omega) W.ph (fun _ _ h => h) (globI hsh) h3

/-! ### A world for the witness -/
noncomputable def laidWorld (os : Os) : World :=
  let w0 := World.holding Tryd.prog os ⟨#[], #[], []⟩
  let put (h : Array Obj) (g : Nat) (cs : Array Value) : Array Obj := h.modify g fun
    | .cells _ t frozen => .cells cs t frozen
    | o => o
  let h1 := put w0.heap 1 (Pinned.utf8FirstZ.map fun z : Nat => Value.int .u8 (z : Int)).toArray
  let h2 := put h1 2 (([128, 191, 160, 191, 128, 159, 144, 191, 128, 143, 0, 0, 0, 0, 0, 0, 0, 0, 0, 0, 0, 0, 0, 0, 0, 0, 0, 0, 0, 0, 0, 0] : List Nat).map fun z : Nat => Value.int .u8 (z : Int)).toArray
  { w0 with heap := h2 }
theorem laid_met1 (os : Os) (args : Array Value) : laidMet Tryd.prog Rows.pathSplitsUptoRow.laid ((laidWorld os).forCall (fun _ _ => 0) ⟨#[], args, []⟩).memory :=
  laidMet_of_run' 8 (by kernel_rfl) (by kernel_rfl)
end Go.Proofs.YtgjgbpnjodhhiaaDoor.Vc
