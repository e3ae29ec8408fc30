/- A law's row out of its contract, where what is read is of bounded bulk; over listed variables. -/
import Derived.Test.YtdpknchgoeboaaaVl4
import Derived.Test.YtdpknchgoeboaaaRows
import Derived.Deep.DeepHandedRow
set_option linter.unusedVariables false
set_option linter.unusedSimpArgs false
namespace Go.Proofs.Ytdpknchgoeboaaa.Vc
open Go Go.Proofs Go.Proofs.Ytdpknchgoeboaaa Go.ChangeShapes Go.WideShapes Go.ChangeAt

section
variable {H : Type} {enc : TypeId × Value → H} {P : Program} {W : World}

theorem bulk_one_le (d : DataW H) : 1 ≤ Rows.uptoBulk d := by
  cases d with
  | lit l => cases l <;> simp [Rows.uptoBulk]
  | _ => simp [Rows.uptoBulk]
theorem bulk_app (l r : List (DataW H)) : Rows.uptoBulkAll (l ++ r) = Rows.uptoBulkAll l + Rows.uptoBulkAll r := by
  induction l with
  | nil => simp [Rows.uptoBulkAll]
  | cons x l ih => simp only [List.cons_append, Rows.uptoBulkAll, ih]; omega

/-- An argument that reads, of so much bulk. -/
def RdB (enc : TypeId × Value → H) (P : Program) (W : World) (t : TypeId) (v : Value) (n : Nat) : Prop := ∃ fuel x, DataW.trod enc P W 0 (fun _ => true) true fuel t v.cells.toList = some x ∧ (x.1.weights P t).all (· ≤ reachBytes) = true ∧ Rows.uptoBulk x.1 = n
def RdBs (enc : TypeId × Value → H) (P : Program) (W : World) (base : Nat) : List TypeId → List Value → Nat → Prop
  | [], [], _ => True
  | t :: ts, v :: vs, n => ∃ a b, a + b ≤ n ∧ (RdB enc P W t v a ∧ Value.okWide P W .any base t v) ∧ RdBs enc P W base ts vs b
  | _, _, _ => False
theorem RdB.v {t : TypeId} {v : Value} {n : Nat} (h : RdB enc P W t v n) : RdV enc P W t v := by
  obtain ⟨fuel, x, h1, h2, _⟩ := h
  exact ⟨fuel, x, h1, h2⟩

theorem args_rdb {base : Nat} : ∀ {ts : List TypeId} {vs : List Value} {ds : List (DataW H)} {ps : List MemPlace} {n : Nat}, (∀ (j : Nat) t v, ts[j]? = some t → vs[j]? = some v → Value.okWide P W .any base t v) →
    DataW.TrodAll enc P W 0 (fun _ => true) true ts vs ds ps → (DataW.weightsEach P ts ds).all (· ≤ reachBytes) = true → Rows.uptoBulkAll ds ≤ n → RdBs enc P W base ts vs n
  | [], vs, ds, ps, n, _, h, _, _ => by
    match vs, ds, h with
    | [], [], _ => trivial
  | t :: ts, vs, ds, ps, n, hv, h, hw, hn => by
    obtain ⟨v, vs', d, ds', p, q, rfl, rfl, rfl, ⟨fuel, h3⟩, h4⟩ := trodAll_cons h
    simp only [DataW.weightsEach, List.all_append, Bool.and_eq_true] at hw
    simp only [Rows.uptoBulkAll] at hn
    exact ⟨Rows.uptoBulk d, Rows.uptoBulkAll ds', hn, ⟨⟨fuel, _, h3, hw.1, rfl⟩, hv 0 t v rfl rfl⟩, args_rdb (fun j t v h1 h2 => hv (j + 1) t v (by simpa using h1) (by simpa using h2)) h4 hw.2 (Nat.le_refl _)⟩

theorem rdbs_cons {base : Nat} {t : TypeId} {ts : List TypeId} {vs : List Value} {n : Nat} (h : RdBs enc P W base (t :: ts) vs n) : ∃ v vs' a b, vs = v :: vs' ∧ a + b ≤ n ∧ RdB enc P W t v a ∧ Value.okWide P W .any base t v ∧ RdBs enc P W base ts vs' b := by
  cases vs with
  | nil => exact h.elim
  | cons v vs =>
    obtain ⟨a, b, h1, h2, h3⟩ := h
    exact ⟨v, vs, a, b, rfl, h1, h2.1, h2.2, h3⟩
theorem rdbs_nil {base : Nat} {vs : List Value} {n : Nat} (h : RdBs enc P W base [] vs n) : vs = [] := by
  cases vs with
  | nil => rfl
  | cons v vs => exact h.elim

/-- A string. -/
theorem rdb_str {base : Nat} {t : TypeId} {v : Value} {n : Nat} (ht : P.underlying t = some .string) (h : RdB enc P W t v n) (hv : Value.okWide P W .any base t v) : ∃ s : ByteArray, v = .string s ∧ s.size + 1 = n := by
  obtain ⟨fuel, x, hx, _, hn⟩ := h
  obtain ⟨s, hc, rfl, _⟩ := DataW.trod_string ht hx
  have := cells_one hc (ok_noagg ht rfl hv)
  subst this
  refine ⟨s, rfl, ?_⟩
  rw [← hn]
  simp only [Rows.uptoBulk, Array.length_toList]
  rfl
/-- Strings. -/
theorem rdb_strs {base : Nat} {t e : TypeId} {v : Value} {n : Nat} (ht : P.underlying t = some (.slice e)) (he : P.underlying e = some .string) (hc : P.cellsOf e = 1) (h : RdB enc P W t v n) (hv : Value.okWide P W .any base t v) :
    ∃ ps : List ByteArray, SlR W.ph v 1 (ps.map fun s => .s (.string s)) ∧ (ps.map ByteArray.size).sum + ps.length ≤ n := by
  obtain ⟨fuel, x, hx, _, hn⟩ := h
  have hw1 : ∃ w, v.cells.toList = [w] := by
    rcases DataW.trod_slice ht hx with ⟨h1, _⟩ | ⟨a, len, cap, _, _, _, _, h1, _⟩
    · exact ⟨_, h1⟩
    · exact ⟨_, h1⟩
  obtain ⟨w, hcl⟩ := hw1
  have := cells_one hcl (ok_noagg ht rfl hv)
  subst this
  rw [hcl] at hx
  rcases Go.Deep.open_slice1 ht hc hx with ⟨hv', rfl⟩ | ⟨a, len, cap, m, k, V, D, Pl, hv', _, hlc, _, hm, rfl, hel⟩
  · simp at hv'; subst hv'
    exact ⟨[], ⟨fun x hx => by simp at hx, .inl ⟨rfl, rfl⟩⟩, by simp⟩
  · simp at hv'; subst hv'
    simp only [if_true] at hm
    subst hm
    have hs : ∀ i, i < m → ∃ s : ByteArray, V i = .string s ∧ D i = .lit (.string s.data.toList) := by
      intro i hi
      obtain ⟨s, h1, h2, _⟩ := DataW.trod_string he (hel i hi).2
      simp only [List.cons.injEq, and_true] at h1
      exact ⟨s, h1, by simpa using congrArg Prod.fst h2⟩
    obtain ⟨f, hf⟩ := choose_le (p := fun i s => V i = .string s ∧ D i = .lit (.string s.data.toList)) (⟨#[]⟩ : ByteArray) m hs
    refine ⟨(List.range len).map f, ⟨fun y hy => ?_, .inr ⟨a, m, by simp, by simpa using hlc, fun h0 => ?_⟩⟩, ?_⟩
    · rw [List.map_map] at hy
      obtain ⟨i, _, rfl⟩ := List.mem_map.1 hy
      exact ⟨rfl, rfl⟩
    · obtain ⟨h1, _⟩ := hel 0 h0
      have hblk : ∃ cs e' fz, a.spot = none ∧ W.heap[a.block]? = some (.cells cs e' fz) := by
        have hab : a.add 0 = a := by simp [Addr.add]
        rw [hab] at h1
        unfold World.cell? at h1
        split at h1
        · rename_i c ty fz hb
          split at h1
          · cases h1
          · rename_i hs'
            exact ⟨c, ty, fz, by simpa using hs', hb⟩
        · cases h1
      obtain ⟨cs, e', fz, hsp, hb⟩ := hblk
      refine ⟨cs, e', fz, hsp, hb, fun j y hj => ?_⟩
      rw [List.map_map] at hj
      obtain ⟨i, k', hi, rfl, hk, hy⟩ := flats_get (z := 1) (g := (fun s : ByteArray => GV.s (.string s)) ∘ f) (fun i hi => rfl) hj
      obtain rfl : k' = 0 := by omega
      simp only [Function.comp, GV.flat, List.getElem?_cons_zero, Option.some.injEq] at hy
      subst hy
      have h2 := (hel i (by omega)).1
      rw [(hf i (by omega)).1] at h2
      unfold World.cell? at h2
      obtain ⟨b, o, sp⟩ := a
      simp only at hsp hb
      subst hsp
      rw [addr_add] at h2
      simp only [hb] at h2
      simpa [Nat.add_assoc] using h2
    · rw [← hn]
      have key : ∀ (r b : Nat), b + r ≤ m → Rows.uptoBulkAll ((List.range' b r).map D) = (((List.range' b r).map f).map ByteArray.size).sum + r := by
        intro r
        induction r with
        | zero => intro b _; simp [Rows.uptoBulkAll]
        | succ r ih =>
          intro b hb
          have := ih (b + 1) (by omega)
          rw [List.range'_succ]
          simp only [List.map_cons, Rows.uptoBulkAll, List.sum_cons, this, (hf b (by omega)).2, Rows.uptoBulk]
          have : (f b).data.toList.length = (f b).size := Array.length_toList
          omega
      have := key len 0 (by omega)
      rw [← List.range_eq_range'] at this
      simp only [Rows.uptoBulk, this, List.length_map, List.length_range]
      omega
end

theorem law_lifted_upto {C : Checked} {os : Os} {f : FuncId} {fn : Func} {s : ChangeSpec} {H : Type} {enc : TypeId × Value → H} {tb : TypeId} {ts : List TypeId} {laid : List (String × DataW Unit)} {F : Stop.Interp}
    (own : ownKnob C.prog.godebug = none) (hl : laidOutB C.prog = true) (started : os.Started) (noInit : C.prog.inits.idxOf? f = none) (hfn : C.prog.funcs[f]? = some fn)
    (witness : ∃ (w : World) (tape : Tape) (i : Input), w.os = os ∧ (w.forCall tape i).Shaped C.prog ∧ i.vars = [] ∧ Input.okWide C.prog (w.forCall tape i) .any w.heap.size f i ∧
      (Rows.OpenSpec.upto s).preRow enc C.prog fn [] false laid (w.forCall tape i).memory i.args ∧ ({} : Assume).holds C.prog (lone (Frame.enter C.prog f i.args .normal) [] (w.forCall tape i)))
    (hr : (fn.params.toList.all fun t => C.prog.readableRec t && decide (t < C.prog.types.size)) = true) (hv : s.vars = []) (hres : fn.resultTypes = #[tb]) (htb : C.prog.underlying tb = some .bool)
    (hts : fn.params.toList = ts) (hs : ∀ ds : List (DataW H), ds.length = ts.length → s.fn H ds = { results := [.lit (.bool true)], args := ds })
    (h : ∀ W base vs, RdBs enc C.prog W base ts vs 1048576 → W.ShapedOpen C.prog → Spec C.prog f vs PH.no W fun rs _ => rs = [.s (.bool true)]) :
    ReturnsInHanded {} C os f .any ((Rows.OpenSpec.upto s).preRow enc C.prog fn [] false laid) (((Rows.OpenSpec.upto s).at F).post enc C.prog fn false true false false) := by
  refine returnsInHanded_of_row (C := C) (s := Rows.OpenSpec.upto s) own started noInit hfn witness ?_
  intro W base args ds gs before hval hW _ hcond hwt _ hsh _
  have hW' := hW
  obtain ⟨p, q, hA, hV, rfl, hfz, hnd⟩ := hW'
  have hv' : (Rows.OpenSpec.upto s).vars = [] := hv
  rw [hv'] at hV
  obtain ⟨rfl, rfl⟩ := trodVars_none hV
  have hvt : (Rows.OpenSpec.upto s).bare.plain.varTypes C.prog = [] := by
    have : (Rows.OpenSpec.upto s).bare.plain.vars = [] := hv
    simp [DataSpec.varTypes, this]
  rw [hvt, List.append_nil, List.append_nil] at hwt
  have hk := of_decide_eq_true (hcond _ rfl)
  rw [List.append_nil] at hk
  have hlen := trodAll_len hA
  exact (contract_true (s := s) (again := false) hl hr hv hres htb (by rw [List.append_nil]; exact hs ds (by rw [hlen, hts])) hW (h W base args.toList (hts ▸ args_rdb (fun j t v h1 h2 => hval j t v (by simpa using h1) (by simpa using h2)) hA hwt hk) hsh)).mono fun e W' ⟨v, h1, h2, _⟩ => ⟨v, h1, h2⟩
end Go.Proofs.Ytdpknchgoeboaaa.Vc
