/- What is read of a tree. -/
import Derived.Test.YtdpknchgoeboaaaTm1
set_option linter.unusedVariables false
set_option linter.unusedSimpArgs false
namespace Go.Proofs.Ytdpknchgoeboaaa.Vc
open Go

theorem eqG_map {P : Program} {t k e : TypeId} (ht : P.underlying t = some (.map k e)) (b : Nat) : EqG P t (.s (.map (some b))) (.s (.map none)) false := by
  have h0 : ∀ d w, (Op.equalIn (d + 1) t (.map (some b)) (.map none)).run P w = .ok false w := fun d w => by
    simp [Op.equalIn, Sem.run_bind, run_underlying' ht]
  have h : ∀ w, (Op.equal t (.map (some b)) (.map none)).run P w = .ok false w := fun w => h0 9999 w
  intro x y w
  exact ⟨by simp [eqGuard, binOp, Sem.run_bind, GV.val, h], by simp [eqGuard, binOp, Sem.run_bind, GV.val, h]⟩
theorem eqG_ptr' {P : Program} {t e : TypeId} (ht : P.underlying t = some (.pointer e)) (b : Nat) : EqG P t (.s (ptr b)) (.s (.pointer none)) false := eqG_ptr ht _

theorem kn_seen {C : Ctx} {ph : List PH} {m u : PH} (hk : KN C.u0 (m :: ph) u) {b : Nat} {o : Obj} (h : u b = some o) : SeenO C ph m b o := by
  rcases hk b o h with h | ⟨v, hv, h⟩
  · exact .inr (.inr h)
  · rcases List.mem_cons.1 hv with rfl | hv
    · exact .inl h
    · exact .inr (.inl ⟨v, hv, h⟩)
theorem seen_cell {C : Ctx} {ph : List PH} {m u : PH} (hk : KN C.u0 (m :: ph) u) {b : Nat} {cs : Array Value} {e : TypeId} {fz : Nat × Nat} (h : u b = some (.cells cs e fz)) {j : Nat} {v : Value} (hj : cs[j]? = some v) (hv : v.oneCell' = true) : Seen C ph m b j (.s v) :=
  seen_of hk h hv fun i w hi => by
    cases i with
    | zero =>
      obtain rfl : v = w := by simpa [GV.flat] using hi
      simpa using hj
    | succ i => simp [GV.flat] at hi

/-- A node's pointer, if it is there. -/
def nptr : Option PN → Nat → Value
  | some _, b => .pointer (some ⟨b, 0, none⟩)
  | none, _ => .pointer none
theorem nptr_some (x : PN) (b : Nat) : nptr (some x) b = .pointer (some ⟨b, 0, none⟩) := rfl
theorem nptr_none (b : Nat) : nptr none b = .pointer none := rfl
theorem eqN_of {C : Ctx} {t t' : TypeId} (ht : C.P.underlying t = some (.pointer t')) {σ : SS} {d : Option Nat} {K : KT} {o : Option PN} {b : Nat} {neg : Bool} (hK : K (σ.put d (.g (.s (.bool (o.isNone != neg)))))) : eqK C t (.s (nptr o b)) (.s (.pointer none)) neg d K σ := by
  cases o with
  | none => exact eq_of (eqG_nilp ht) hK
  | some x => exact eq_of (eqG_ptr ht _) hK

section
variable {C : Ctx} {ph : List PH} {m u : PH} {e : TypeId} {L : Lay} {T : PT}
theorem TreeM.s_map (h : TreeM e u L T) (hk : KN C.u0 (m :: ph) u) : Seen C ph m (L .t) 0 (.s (.map (some (L .nb)))) := by
  obtain ⟨o, idsV, h1, e', rfl⟩ := h.at .t trivial
  exact seen_cell hk h1 rfl rfl
theorem TreeM.s_mark (h : TreeM e u L T) (hk : KN C.u0 (m :: ph) u) : Seen C ph m (L .t) 1 (.s (ptr (L .mk))) := by
  obtain ⟨o, idsV, h1, e', rfl⟩ := h.at .t trivial
  exact seen_cell hk h1 rfl rfl
theorem TreeM.s_last (h : TreeM e u L T) (hk : KN C.u0 (m :: ph) u) : Seen C ph m (L .t) 4 (.s (.int .i64 T.last)) := by
  obtain ⟨o, idsV, h1, e', rfl⟩ := h.at .t trivial
  exact seen_cell hk h1 rfl rfl
theorem TreeM.s_nodes (h : TreeM e u L T) (hk : KN C.u0 (m :: ph) u) : ∃ o, SeenO C ph m (L .nb) o ∧ MapI (some .i64) o (rawN L T.nodes) := by
  obtain ⟨o, idsV, h1, h2⟩ := h.at .nb trivial
  exact ⟨o, kn_seen hk h1, h2⟩
theorem TreeM.s_node (h : TreeM e u L T) (hk : KN C.u0 (m :: ph) u) {k : Int} {n : PN} (hn : T.get k = some n) :
    Seen C ph m (L (.nd k)) 0 (.s (.int .i64 n.parent)) ∧ Seen C ph m (L (.nd k)) 1 (.s (.string n.name)) ∧ Seen C ph m (L (.nd k)) 2 (.s (.map (some (L (.ab k))))) ∧ Seen C ph m (L (.nd k)) 3 (.s (.map (some (L (.kb k))))) ∧ Seen C ph m (L (.nd k)) 0 (gPlace ⟨n.parent, n.name⟩) := by
  obtain ⟨o, idsV, h1, h2⟩ := h.at (.nd k) ⟨n, hn⟩
  obtain ⟨e', rfl⟩ := h2 n hn
  refine ⟨seen_cell hk h1 rfl rfl, seen_cell hk h1 rfl rfl, seen_cell hk h1 rfl rfl, seen_cell hk h1 rfl rfl, seen_of hk h1 (gPlace_ok _) fun i w hi => ?_⟩
  match i, hi with
  | 0, hi => simpa [gPlace, GV.flat] using hi
  | 1, hi => simpa [gPlace, GV.flat] using hi
  | i + 2, hi => simp [gPlace, GV.flat] at hi
theorem TreeM.s_attrs (h : TreeM e u L T) (hk : KN C.u0 (m :: ph) u) {k : Int} {n : PN} (hn : T.get k = some n) : ∃ o, SeenO C ph m (L (.ab k)) o ∧ MapI none o (rawA n.attrs) := by
  obtain ⟨o, idsV, h1, h2⟩ := h.at (.ab k) ⟨n, hn⟩
  exact ⟨o, kn_seen hk h1, h2 n hn⟩
theorem TreeM.s_kids (h : TreeM e u L T) (hk : KN C.u0 (m :: ph) u) {k : Int} {n : PN} (hn : T.get k = some n) : ∃ o, SeenO C ph m (L (.kb k)) o ∧ MapI (some .i64) o (rawK n.kids) := by
  obtain ⟨o, idsV, h1, h2⟩ := h.at (.kb k) ⟨n, hn⟩
  exact ⟨o, kn_seen hk h1, h2 n hn⟩

variable {σ : SS} {d : Option Nat} {K : KT}
/-- A node looked up. -/
theorem TreeM.lk (h : TreeM e u L T) (hk : KN C.u0 (σ.m :: σ.ph) u) (n : Int) (hK : K (σ.put d (.g (.s (nptr (T.get n) (L (.nd n))))))) : mlkK C (some .i64) (L .nb) (.int .i64 n) (.pointer none) false d K σ := by
  obtain ⟨o, h1, h2⟩ := h.s_nodes hk
  refine ⟨o, _, h1, h2, rfl, ?_⟩
  unfold lkS
  rw [mget_rawN]
  unfold PT.get at hK
  cases hg : getA T.nodes n with
  | none => rw [hg] at hK; exact hK
  | some x => rw [hg] at hK; exact hK
theorem TreeM.len (h : TreeM e u L T) (hk : KN C.u0 (σ.m :: σ.ph) u) (hK : K (σ.put d (.g (.s (.int .i64 T.nodes.length))))) : mlnK C (some .i64) (L .nb) d K σ := by
  obtain ⟨o, h1, h2⟩ := h.s_nodes hk
  refine ⟨o, _, h1, h2, ?_⟩
  rw [show (rawN L T.nodes).length = T.nodes.length by simp [rawN]]
  exact hK
end
end Go.Proofs.Ytdpknchgoeboaaa.Vc
