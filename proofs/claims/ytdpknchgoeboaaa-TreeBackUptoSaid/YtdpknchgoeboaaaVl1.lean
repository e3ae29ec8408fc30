/- From what a call computes to the row of a law that answers true and leaves its arguments as they were. -/
import Derived.Test.YtdpknchgoeboaaaVt1
import Derived.ChangeSame
import Derived.JoinedOf
import Derived.JoinedAt
import Derived.JoinedStill
import Derived.WideKeyArgs
set_option linter.unusedVariables false
set_option linter.unusedSimpArgs false
namespace Go.Proofs.Ytdpknchgoeboaaa.Vc
open Go Go.ChangeShapes Go.WideShapes Go.ChangeAt Go.WideElems

section
variable {H : Type} {enc : TypeId × Value → H} {P : Program} {W W' : World}

theorem Kept.old (h : Kept PH.no W W') {k : Nat} (hk : k < W.heap.size) : W'.heap[k]? = W.heap[k]? := h.2.2.2.2 k hk rfl

theorem Kept.but (h : Kept PH.no W W') (may : MemPlace → Prop) : W.keptBut W' may := by
  refine ⟨h.1, h.2.2.1, fun i hi => ?_⟩
  rw [h.old hi]
  cases W.heap[i]? with
  | none => rfl
  | some o => cases o <;> first | exact ⟨rfl, rfl, rfl, fun _ _ => rfl⟩ | exact .inr ⟨rfl, rfl⟩ | rfl

theorem Kept.at (h : Kept PH.no W W') {p : MemPlace} (hp : p.block < W.heap.size) : W.sameAt W' p := by
  cases p with
  | cell b off =>
    show W'.cell? _ = W.cell? _
    have e : W'.heap[b]? = W.heap[b]? := h.old hp
    unfold World.cell?
    simp only [e]
  | map b => exact h.old hp

theorem trodAll_stays (hl : laidOutB P = true) {sp' : Nat → Bool} : ∀ {ts : List TypeId} {vs : List Value} {ds : List (DataW H)} {ps : List MemPlace}, (∀ t ∈ ts, P.readableRec t = true ∧ t < P.types.size) →
    DataW.TrodAll enc P W 0 (fun _ => true) true ts vs ds ps → (∀ p ∈ ps, W.sameAt W' p) → (∀ p ∈ ps, sp' p.block = true) → DataW.TrodAll enc P W' 0 sp' true ts vs ds ps
  | [], vs, ds, ps, _, h, _, _ => by
    obtain ⟨rfl, rfl, rfl⟩ := trodAll_nil h
    exact rfl
  | t :: ts, vs, ds, ps, hr, h, h1, h2 => by
    obtain ⟨v, vs', d, ds', p, q, rfl, rfl, rfl, h3, h4⟩ := trodAll_cons h
    exact ⟨p, q, Trod_stays hl (hr t (by simp)).1 (hr t (by simp)).2 h3 (fun x hx => h1 x (by simp [hx])) (fun x hx => h2 x (by simp [hx])),
      trodAll_stays hl (fun t ht => hr t (by simp [ht])) h4 (fun x hx => h1 x (by simp [hx])) (fun x hx => h2 x (by simp [hx])), rfl⟩

theorem contract_true {f : Nat} {fn : Func} {s : ChangeSpec} {apart fresh handsOn again : Bool} {args : Array Value} {ds gs : List (DataW H)} {before : List MemPlace} {tb : TypeId} (hl : laidOutB P = true)
    (hr : (fn.params.toList.all fun t => P.readableRec t && decide (t < P.types.size)) = true) (hv : s.vars = []) (hres : fn.resultTypes = #[tb]) (htb : P.underlying tb = some .bool)
    (hs : s.fn H (ds ++ gs) = { results := [.lit (.bool true)], args := ds }) (hW : DataW.Whole enc P fn.params.toList s.vars apart W args.toList ds gs before)
    (h : Spec P f args.toList PH.no W fun rs _ => rs = [.s (.bool true)]) :
    Calls P f args W fun e W' => ∃ v, e = .returned v ∧ s.post enc P fn apart fresh handsOn again W args v W' ∧ W.keptBut W' (fun _ => False) := by
  have h0 := h (fun _ _ e => by cases e)
  rw [show args.toList.toArray = args by simp] at h0
  refine h0.mono fun e W' he => ?_
  obtain ⟨rs, m', rfl, _, rfl, _, _, hk⟩ := he
  refine ⟨.bool true, rfl, ?_, hk.but _⟩
  have hW0 := hW
  obtain ⟨p, q, hA, hV, rfl, hfz, hnd⟩ := hW
  rw [hv] at hV
  obtain ⟨rfl, rfl⟩ := trodVars_none hV
  simp only [List.append_nil] at *
  have hall : ∀ t ∈ fn.params.toList, P.readableRec t = true ∧ t < P.types.size := by
    intro t ht
    have := List.all_eq_true.1 hr t ht
    simpa using this
  have hlt := DataW.TrodAll.lt hA
  have hargs : ∀ sp : Nat → Bool, (∀ x ∈ p, sp x.block = true) → DataW.TrodAll enc P W' 0 sp true fn.params.toList args.toList ds p := fun sp hsp =>
    trodAll_stays hl hall hA (fun x hx => hk.at (hlt x hx)) hsp
  have hbool : ∀ (b : Nat) (sp : Nat → Bool) (hd : Bool), DataW.TrodAll enc P W' b sp hd fn.resultTypes.toList ((Value.bool true).resultList fn.resultTypes.size) [.lit (.bool true)] [] := by
    intro b sp hd
    rw [hres]
    exact ⟨[], [], ⟨1, by simp [DataW.trod, htb, Value.cells]⟩, rfl, rfl⟩
  have hcell : ∀ x ∈ p, x.block < W.heap.size := hlt
  refine ⟨ds, [], p, [], p, [], by simpa using hW0, by rw [List.append_nil, hs]; exact hbool _ _ _, by rw [List.append_nil, hs]; exact hargs _ (fun x hx => by simpa using hlt x hx), by rw [hv]; rw [List.append_nil, hs]; exact rfl, hk.but _, fun _ => ⟨?_, ?_⟩⟩
  · intro j t r hj hr'
    rw [hres] at hj hr'
    match j, hj, hr' with
    | 0, hj, hr' =>
      simp [Value.resultList] at hj hr'
      subst hj; subst hr'
      simp [Value.okWide, htb, Cell.okWide, Cell.ok]
  · refine ⟨_, [], p, ⟨[] ++ p, [], trodAll_append (hargs _ (fun _ _ => rfl)) (hbool _ _ _), by rw [hv]; exact rfl, by simp, ?_, fun ha => by simpa using hnd ha⟩, fun x hx _ => hx⟩
    intro b off hp
    have := hfz b off hp
    unfold World.frozen? at this ⊢
    have e : W'.heap[b]? = W.heap[b]? := hk.old (hlt _ hp)
    simp only [e]
    exact this

end

end Go.Proofs.Ytdpknchgoeboaaa.Vc
