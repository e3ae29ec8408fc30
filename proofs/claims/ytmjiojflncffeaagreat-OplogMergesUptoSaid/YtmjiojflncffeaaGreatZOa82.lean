/- Part 2 of what a law of this seat rests on. -/
import Derived.Laws.StructEq
import Derived.Deep.LoopGhost
import Derived.RangeFuncLeaves
import Derived.RangeFuncRecord
import Derived.Lib.Walk
import Derived.Lib.Small
import Derived.StillTailTactics
import Derived.Shelf.SlSortCmp.InsertionK
import Derived.Test.YtmjiojflncffeaaGreatProg
import Derived.Test.YtmjiojflncffeaaGreatZOa81
/- Maps: what the operations on them do. -/
set_option linter.unusedVariables false
set_option linter.unusedSimpArgs false
namespace Go.Proofs.YtmjiojflncffeaaGreat.Vc
open Go

theorem nodup_of_map {α β : Type} (f : α → β) : ∀ {l : List α}, (l.map f).Nodup → l.Nodup
  | [], _ => List.nodup_nil
  | x :: l, h => by
    rw [List.map_cons, List.nodup_cons] at h
    exact List.nodup_cons.2 ⟨fun hx => h.1 (List.mem_map.2 ⟨x, hx, rfl⟩), nodup_of_map f h.2⟩
theorem inj_of_nodup {α β : Type} {f : α → β} : ∀ {l : List α}, (l.map f).Nodup → ∀ {x y : α}, x ∈ l → y ∈ l → f x = f y → x = y
  | [], _, x, y, hx, _, _ => by simp at hx
  | z :: l, h, x, y, hx, hy, he => by
    rw [List.map_cons, List.nodup_cons] at h
    rcases List.mem_cons.1 hx with hx | hx
    · rcases List.mem_cons.1 hy with hy | hy
      · rw [hx, hy]
      · exact (h.1 (List.mem_map.2 ⟨y, hy, by rw [← he, hx]⟩)).elim
    · rcases List.mem_cons.1 hy with hy | hy
      · exact (h.1 (List.mem_map.2 ⟨x, hx, by rw [he, hy]⟩)).elim
      · exact inj_of_nodup h.2 hx hy he
theorem erase_map {α β : Type} (f : α → β) : ∀ (l : List α) (j : Nat), (l.eraseIdx j).map f = (l.map f).eraseIdx j
  | [], _ => rfl
  | _ :: _, 0 => rfl
  | x :: l, j + 1 => by simp [List.eraseIdx_cons_succ, erase_map f l j]

theorem keq_iff {kd : Option IntKind} {a b : Value} (ha : MapKept.IsKey (mkD kd) a) (hb : MapKept.IsKey (mkD kd) b) : keq a b = true ↔ a = b := by
  cases kd <;> cases a <;> cases b <;> simp_all [MapKept.IsKey, mkD, keq]

theorem find_m {kd : Option IntKind} {k : Value} (hk : MapKept.IsKey (mkD kd) k) : ∀ (l : List MapEntry) (i : Nat), (∀ x ∈ l, MapKept.IsKey (mkD kd) x.key) →
    (Instr.findNow (mkD kd) k l i = some none ∧ (∀ x ∈ l, x.key ≠ k) ∧ mget (l.map kv) k = none ∧ (∀ y, mput (l.map kv) k y = l.map kv ++ [(k, y)]) ∧ mdel (l.map kv) k = l.map kv) ∨
    ∃ j e, Instr.findNow (mkD kd) k l i = some (some (i + j, e.val)) ∧ l[j]? = some e ∧ e.key = k ∧ mget (l.map kv) k = some e.val ∧ (∀ y, mput (l.map kv) k y = (l.map kv).set j (k, y)) ∧ mdel (l.map kv) k = (l.map kv).eraseIdx j
  | [], i, _ => .inl ⟨rfl, by simp, rfl, fun _ => rfl, rfl⟩
  | e :: l, i, h => by
    have he := h e (by simp)
    obtain ⟨r, hr, hiff⟩ := MapKept.sameNow_of_keys hk he
    cases r with
    | true =>
      have hek : e.key = k := (hiff.1 rfl).symm
      have hq : keq e.key k = true := (keq_iff he hk).2 hek
      exact .inr ⟨0, e, by simp [Instr.findNow, hr], rfl, hek, by simp [mget, kv, hq], fun y => by simp [mput, kv, hq], by simp [mdel, kv, hq]⟩
    | false =>
      have hne : e.key ≠ k := fun q => by have := hiff.2 q.symm; cases this
      have hq : keq e.key k = false := by
        cases h : keq e.key k with
        | false => rfl
        | true => exact absurd ((keq_iff he hk).1 h) hne
      rcases find_m hk l (i + 1) (fun x hx => h x (by simp [hx])) with ⟨h1, h2, h3, h4, h5⟩ | ⟨j, e', h1, h2, h3, h4, h5, h6⟩
      · refine .inl ⟨by simp [Instr.findNow, hr, h1], ?_, by simp [mget, kv, hq]; simpa [kv] using h3, fun y => ?_, ?_⟩
        · intro x hx
          rcases List.mem_cons.1 hx with rfl | hx
          · exact hne
          · exact h2 x hx
        · have := h4 y
          simp only [List.map_cons, kv, mput, hq, cond_false, List.cons_append]
          rw [this]
        · simp only [List.map_cons, kv, mdel, hq, cond_false]
          rw [h5]
      · refine .inr ⟨j + 1, e', by simp [Instr.findNow, hr, h1]; omega, by simpa using h2, h3, ?_, fun y => ?_, ?_⟩
        · simp only [List.map_cons, kv, mget, hq, cond_false]
          simpa [kv] using h4
        · have := h5 y
          simp only [List.map_cons, kv, mput, hq, cond_false, List.set_cons_succ]
          rw [this]
        · simp only [List.map_cons, kv, mdel, hq, cond_false, List.eraseIdx_cons_succ]
          rw [h6]

theorem mapT_spec {P : Program} {t : TypeId} {kd : Option IntKind} {z : Option Value} (h : mapT P t = some (kd, z)) :
    ∃ k e, P.underlying t = some (.map k e) ∧ P.underlying k = some (mkD kd) ∧ ∀ v, z = some v → v.oneCell' = true ∧ ∃ i, P.info? e = some i ∧ i.zero = some v := by
  unfold mapT at h
  split at h <;> first | (cases h; done) | skip
  rename_i k e hm
  have zz : ∀ v, (match (P.info? e).bind (·.zero) with | some z => if z.oneCell' then some z else none | none => none) = some v → v.oneCell' = true ∧ ∃ i, P.info? e = some i ∧ i.zero = some v := by
    intro v hv
    split at hv
    · rename_i z' hz'
      split at hv
      · rename_i h1
        simp at hv; subst hv
        obtain ⟨i, hi, hz⟩ := Option.bind_eq_some_iff.mp hz'
        exact ⟨h1, i, hi, hz⟩
      · cases hv
    · cases hv
  split at h <;> first | (cases h; done) | skip
  · rename_i kd' hk
    simp only [Option.some.injEq, Prod.mk.injEq] at h
    obtain ⟨rfl, rfl⟩ := h
    exact ⟨k, e, hm, hk, zz⟩
  · rename_i hk
    simp only [Option.some.injEq, Prod.mk.injEq] at h
    obtain ⟨rfl, rfl⟩ := h
    exact ⟨k, e, hm, hk, zz⟩

theorem mget_one {kd : Option IntKind} {o : Obj} {l : List (Value × Value)} (h : MapI kd o l) {k v : Value} (hv : mget l k = some v) : v.oneCell' = true := by
  obtain ⟨es, cl, rfl, rfl, _, hx⟩ := h
  have key : ∀ (l : List MapEntry), (∀ e ∈ l, e.val.oneCell' = true) → mget (l.map kv) k = some v → v.oneCell' = true := by
    intro l
    induction l with
    | nil => intro _ h; cases h
    | cons e l ih =>
      intro he h
      simp only [List.map_cons, kv, mget] at h
      cases hq : keq e.key k with
      | true => rw [hq] at h; simp at h; subst h; exact he e (by simp)
      | false => rw [hq] at h; exact ih (fun x hx => he x (by simp [hx])) (by simpa [kv] using h)
  exact key es.toList (fun e he => (hx e he).2) hv

section
variable {C : Ctx} {loc : Loc} {σ : SS} {a : Act} {o : Oper} {w : World} {K : KT} {Q : Exit → Act → World → Prop}

theorem HR.seenO {pv : List (Nat × PV)} {ph : List PH} {m : PH} (hH : HR C loc pv ph m w) {b : Nat} {ob : Obj} (hs : SeenO C ph m b ob) : w.heap[b]? = some ob := by
  rcases hs with h | ⟨u, hu, h⟩ | h
  · exact hH.mle b _ h
  · exact (hH.phs u hu).1 b _ h
  · exact hH.u0le b _ h

theorem isPure_lookup {P : Program} {o : Oper} {t : TypeId} {x i : Operand} {ok : Bool} (ho : o.op = .lookup t x i ok) : isPure (cOp P o) = false := by
  unfold cOp cOp?
  rw [ho]
  simp only
  (repeat' split) <;> rfl
theorem isPure_lookup' {P : Program} {o : Oper} {t : TypeId} {x i : Operand} {ok : Bool} (ho : o.op = .lookup t x i ok) : isPure (cOp P o) = false := isPure_lookup ho
theorem isPure_entry {P : Program} {o : Oper} {x : Operand} (ho : o.op = .entry x) : isPure (cOp P o) = false := by
  unfold cOp cOp?
  rw [ho]
  simp only
  cases cOpd x <;> rfl
theorem isPure_lenM {P : Program} {o : Oper} {c : Call} {x : Operand} {t k e : TypeId} (ho : o.op = .call c) (hc : c.callee = .builtin .len) (ha : c.args.toList = [x]) (ht : c.argTypes[0]? = some t) (hu : P.underlying t = some (.map k e)) : isPure (cOp P o) = false := by
  unfold cOp cOp?
  rw [ho]
  simp only [hc, ha, ht, hu]
  (repeat' split) <;> rfl

theorem rd_mlk {t : TypeId} {x i : Operand} {x' i' : Opd} {ok : Bool} {kd : Option IntKind} {z : Value} (ho : o.op = .lookup t x i ok) (hT : mapT C.P t = some (kd, some z)) (hx : cOpd x = some x') (hi : cOpd i = some i') (hF : FR loc C.N σ.fr σ.pv σ.ph a)
    {b : Nat} {k : Value} (e1 : ev σ x' = some (.g (.s (.map (some b))))) (e2 : ev σ i' = some (.g (.s k))) {ob : Obj} {l : List (Value × Value)} (hs : SeenO C σ.ph σ.m b ob) (hI : MapI kd ob l) (hk : MapKept.IsKey (mkD kd) k) :
    Reads C loc σ o a (lkS l k z ok) := by
  have h1 := (hF.ev rfl e1).s
  have h2 := (hF.ev rfl e2).s
  obtain ⟨kt, et, hm, hkt, hz⟩ := mapT_spec hT
  obtain ⟨hz1, inf, hinf, hz2⟩ := hz z rfl
  have hvo : ((mget l k).getD z).oneCell' = true := by
    cases hg : mget l k with
    | none => exact hz1
    | some v => exact mget_one hI hg
  have hrun : ∀ w, HR C loc σ.pv σ.ph σ.m w → (Instr.lookup t (.map (some b)) k ok).run C.P w = .ok (if ok then .tuple #[(mget l k).getD z, .bool (mget l k).isSome] else (mget l k).getD z) w := by
    intro w hw
    obtain ⟨es, cl, rfl, rfl, hst, hks⟩ := hI
    have hb := hw.seenO hs
    have hzr : ∀ w, (zeroValue et).run C.P w = .ok z w := fun w => by simp [zeroValue, Sem.run_bind, run_typeInfo hinf, hz2]
    rcases find_m hk es.toList 0 (fun e he => (hks e he).1) with ⟨g1, _, g3, _⟩ | ⟨j, e, g1, _, _, g4, _⟩
    · cases ok <;> simp [Instr.lookup, Sem.run_bind, run_underlying' hm, MapKept.run_getObj_map hb, MapKept.run_checkKey hkt hk, MapKept.run_findKey hkt g1, hzr, g3]
    · cases ok <;> simp [Instr.lookup, Sem.run_bind, run_underlying' hm, MapKept.run_getObj_map hb, MapKept.run_checkKey hkt hk, MapKept.run_findKey hkt g1, hzr, g4]
  refine rd_valL (isPure_lookup ho) (s := Instr.lookup t (.map (some b)) k ok) (v := if ok then .tuple #[(mget l k).getD z, .bool (mget l k).isSome] else (mget l k).getD z) ?_ (by simp only [execOp, ho, cOpd_eval hx a, cOpd_eval hi a, h1, h2]) fun w hw => hrun w hw
  cases ok with
  | true => exact ⟨fun y hy => by simp at hy; rcases hy with rfl | rfl; exact hvo; rfl, rfl⟩
  | false => exact ⟨hvo, rfl⟩

theorem rd_mln {c : Call} {x : Operand} {y : Opd} {t : TypeId} {kd : Option IntKind} {z : Option Value} (ho : o.op = .call c) (hc : c.callee = .builtin .len) (ha : c.args.toList = [x]) (ht : c.argTypes[0]? = some t) (hT : mapT C.P t = some (kd, z))
    (hx : cOpd x = some y) (hF : FR loc C.N σ.fr σ.pv σ.ph a) {b : Nat} (e1 : ev σ y = some (.g (.s (.map (some b))))) {ob : Obj} {l : List (Value × Value)} (hs : SeenO C σ.ph σ.m b ob) (hI : MapI kd ob l) : Reads C loc σ o a (.g (.s (.int .i64 l.length))) := by
  obtain ⟨kt, et, hm, hkt, _⟩ := mapT_spec hT
  have h1 := (hF.ev rfl e1).s
  refine rd_valL (isPure_lenM ho hc ha ht hm) (s := Builtin.len_ c.argTypes o.type (c.args.map a.eval)) (v := .int .i64 l.length) ⟨rfl, rfl⟩ (by rw [exec_builtin ho hc]; rfl) fun w hw => ?_
  obtain ⟨es, cl, rfl, rfl, hst, hks⟩ := hI
  have hb := hw.seenO hs
  rw [args_one ha]
  simp [Builtin.len_, ht, Sem.run_bind, run_underlying' hm, cOpd_eval hx a, h1, goInt, MapKept.run_getObj_map hb]
theorem rd_mln0 {c : Call} {x : Operand} {y : Opd} {t : TypeId} {kd : Option IntKind} {z : Option Value} (ho : o.op = .call c) (hc : c.callee = .builtin .len) (ha : c.args.toList = [x]) (ht : c.argTypes[0]? = some t) (hT : mapT C.P t = some (kd, z))
    (hx : cOpd x = some y) (hF : FR loc C.N σ.fr σ.pv σ.ph a) (e1 : ev σ y = some (.g (.s (.map none)))) : Reads C loc σ o a (.g (.s (.int .i64 0))) := by
  obtain ⟨kt, et, hm, hkt, _⟩ := mapT_spec hT
  have h1 := (hF.ev rfl e1).s
  refine rd_val (s := Builtin.len_ c.argTypes o.type (c.args.map a.eval)) (v := .int .i64 0) ⟨rfl, rfl⟩ (by rw [exec_builtin ho hc]; rfl) fun w => ?_
  rw [args_one ha]
  simp [Builtin.len_, ht, Sem.run_bind, run_underlying' hm, cOpd_eval hx a, h1, goInt]

theorem iter_last {it mo : Obj} {b : Nat} {s : List (Value × Value)} {p : Value × Value} (h : IterM it mo b (s ++ [p])) : ∃ (es : Array MapEntry) (cl : Nat) (vs : List MapEntry) (e : MapEntry), mo = .map es cl ∧ it = .mapIter (some b) cl ((vs.map (·.born)).toArray.push e.born) cl ∧ e ∈ es.toList ∧ kv e = p := by
  obtain ⟨es, cl, vs, rfl, rfl, h1, h2, h3⟩ := h
  rcases List.eq_nil_or_concat vs with rfl | ⟨vs0, e, rfl⟩
  · simp at h3
  · simp only [List.concat_eq_append, List.map_append, List.map_cons, List.map_nil] at h3
    obtain ⟨_, h5⟩ := List.append_inj' h3 rfl
    refine ⟨es, cl, vs0, e, rfl, ?_, h1 e (by simp), by simpa using h5.symm⟩
    simp [List.concat_eq_append]

theorem rd_ent {x : Operand} {y : Opd} (ho : o.op = .entry x) (hx : cOpd x = some y) (hF : FR loc C.N σ.fr σ.pv σ.ph a) {r : Nat} (e1 : ev σ y = some (.g (.s (.pointer (some ⟨r, 0, none⟩))))) {it ob : Obj} {b : Nat} {kd : Option IntKind} {l s : List (Value × Value)} {p : Value × Value}
    (hi : SeenO C σ.ph σ.m r it) (hs : SeenO C σ.ph σ.m b ob) (hI : MapI kd ob l) (hit : IterM it ob b (s ++ [p])) : Reads C loc σ o a (.tup [.s p.1, .s p.2]) := by
  have h1 := (hF.ev rfl e1).s
  obtain ⟨es, cl, vs, e, rfl, rfl, he, rfl⟩ := iter_last hit
  obtain ⟨es', cl', heq, rfl, hst, hks⟩ := hI
  obtain ⟨rfl, rfl⟩ : es = es' ∧ cl = cl' := by simpa using heq
  have hke := hks e he
  have hk1 : e.key.oneCell' = true := by
    have := hke.1
    cases kd <;> cases h : e.key <;> simp_all [MapKept.IsKey, mkD, Value.oneCell']
  refine rd_valL (isPure_entry ho) (s := Instr.entry (.pointer (some ⟨r, 0, none⟩))) (v := .tuple #[e.key, e.val]) ⟨fun y hy => ?_, rfl⟩ (by simp only [execOp, ho, cOpd_eval hx a, h1]) fun w hw => ?_
  · simp [kv] at hy
    rcases hy with rfl | rfl
    · exact hk1
    · exact hke.2
  · exact run_entry_at w r b cl _ es cl e (hw.seenO hi) (hw.seenO hs) he hst.2.1

/-! ### Writing -/
theorem wp_mem {b : Nat} {ob ob' : Obj} {x : SV} {v : Value} {w1 : World} (hd : ∀ t, o.dst = some t → t < C.N) (hrun : (execOp a.eval o).run C.P w = .ok (.value v) (w1.setBlk b ob') ∨ ((execOp a.eval o).run C.P w = .ok .skip (w1.setBlk b ob') ∧ v = undef)) (hw1 : HR C loc σ.pv σ.ph σ.m w1) (hF : FR loc C.N σ.fr σ.pv σ.ph a)
    (hm : σ.m b = some ob) (hv : SVr loc σ.pv x v) (hK : K ({ σ with m := σ.m.upd b ob' }.put o.dst x)) : o.wp C.P a w (liftK C K) Q := by
  have hH' := hw1.memw (ob' := ob') hm
  obtain ⟨q1, q2, q3⟩ := ({ σ with m := σ.m.upd b ob' } : SS).put_pv o.dst x
  have fin : ∀ u, u = v → liftK C K (a.put o.dst u) (w1.setBlk b ob') := by
    rintro u rfl
    refine ⟨_, hK, loc, ?_, by rw [q1, q2, q3]; exact hH'⟩
    rw [q1, q2]
    exact hF.put (σ := { σ with m := σ.m.upd b ob' }) hd rfl hv
  unfold Oper.wp
  rcases hrun with h | ⟨h, rfl⟩
  · rw [h, Oper.upon_value]; exact fin v rfl
  · rw [h, Oper.upon_skip]; exact fin _ rfl

theorem HR.allocm {pv : List (Nat × PV)} {ph : List PH} {m : PH} (hH : HR C loc pv ph m w) (ob : Obj) : HR C loc pv ph (uni (one w.heap.size ob) m) (w.alloc ob) ∧ dis (one w.heap.size ob) m := by
  have hW := hH.kept.2.2.2.1
  have hle : ∀ (u : PH), u.le w → u.le (w.alloc ob) := fun u hu j o hj => by
    have := hu j o hj
    rw [alloc_old (Array.getElem?_eq_some_iff.1 this).1]; exact this
  have hne : ∀ (u : PH), u.le w → u w.heap.size = none := fun u hu => by
    cases hh : u w.heap.size with
    | none => rfl
    | some o => have := hu _ _ hh; simp at this
  have hdis : dis (one w.heap.size ob) m := fun k => by
    by_cases hk : k = w.heap.size
    · subst hk; exact .inr (hne m hH.mle)
    · exact .inl (by simp [one, hk])
  have hother : ∀ k, k ≠ w.heap.size → uni (one w.heap.size ob) m k = m k := fun k hk => by simp [uni, one, hk]
  refine ⟨⟨?_, ?_, hH.apart, ?_, ?_, ?_, fun u hu => ⟨hle _ (hH.phs u hu).1, fun k hk => ?_⟩⟩, hdis⟩
  · obtain ⟨h1, h2, h3, h4, h5⟩ := hH.kept
    exact ⟨h1, h2, h3, by simp; omega, fun j hj hm => by rw [alloc_old (by omega)]; exact h5 j hj hm⟩
  · intro j y' hj
    have hp := hH.pvs j y' hj
    cases y' with
    | box g' =>
      obtain ⟨h0, b', c', e', hl', hb⟩ := hp
      exact ⟨h0, b', c', e', hl', by rw [alloc_old (Array.getElem?_eq_some_iff.1 hb).1]; exact hb⟩
    | row e' z df xs =>
      refine ⟨hp.1, ?_⟩
      have hp2 := hp.2
      cases hl : loc j with
      | none => rw [hl] at hp2; exact hp2
      | some l =>
        obtain ⟨b, o, c⟩ := l
        rw [hl] at hp2
        obtain ⟨cs, hb, hr⟩ := hp2
        exact ⟨cs, by rw [alloc_old (Array.getElem?_eq_some_iff.1 hb).1]; exact hb, hr⟩
    | ro z df xs => exact hp
  · intro j y1 b o c h1 h2 h3
    obtain ⟨e1, e2, e3⟩ := hH.priv j y1 b o c h1 h2 h3
    have hlt := hH.own_lt h1 h2 h3
    exact ⟨e1, by rw [hother b (by omega)]; exact e2, e3⟩
  · intro k x hk
    by_cases hks : k = w.heap.size
    · subst hks
      have : x = ob := by simpa [uni, one] using hk.symm
      subst this
      exact alloc_new
    · rw [hother k hks] at hk
      exact hle m hH.mle k x hk
  · intro k hk
    by_cases hks : k = w.heap.size
    · subst hks; exact .inl hW
    · rw [hother k hks] at hk
      exact hH.mmine k hk
  · have hks : k ≠ w.heap.size := fun e => by subst e; exact hk (hne u (hH.phs u hu).1)
    rw [hother k hks]
    exact (hH.phs u hu).2 k hk

theorem wp_allocm {ob : Obj} {x : SV} {v : Value} (hd : ∀ t, o.dst = some t → t < C.N) (hrun : (execOp a.eval o).run C.P w = .ok (.value v) (w.alloc ob)) (hH : HR C loc σ.pv σ.ph σ.m w) (hF : FR loc C.N σ.fr σ.pv σ.ph a)
    (hv : SVr loc σ.pv x v) (hK : dis (one w.heap.size ob) σ.m → K ({ σ with m := uni (one w.heap.size ob) σ.m }.put o.dst x)) : o.wp C.P a w (liftK C K) Q := by
  obtain ⟨hH', hdis⟩ := hH.allocm ob
  obtain ⟨q1, q2, q3⟩ := ({ σ with m := uni (one w.heap.size ob) σ.m } : SS).put_pv o.dst x
  unfold Oper.wp
  rw [hrun, Oper.upon_value]
  refine ⟨_, hK hdis, loc, ?_, by rw [q1, q2, q3]; exact hH'⟩
  rw [q1, q2]
  exact hF.put (σ := { σ with m := uni (one w.heap.size ob) σ.m }) hd rfl hv

theorem run_value' {P : Program} {s : Sem Value} {w w' : World} {v : Value} (h : s.run P w = .ok v w') : (do pure (.value (← s)) : Sem Next).run P w = .ok (.value v) w' := by
  simp [Sem.run_bind, h]

theorem wp_mkm {t : TypeId} (ho : o.op = .makeMap t none) (hd : ∀ t, o.dst = some t → t < C.N) (hF : FR loc C.N σ.fr σ.pv σ.ph a) (hH : HR C loc σ.pv σ.ph σ.m w) (h : mkmK o.dst K σ) : o.wp C.P a w (liftK C K) Q := by
  refine wp_allocm (ob := .map #[] 0) (x := .g (.s (.map (some w.heap.size)))) (v := .map (some w.heap.size)) hd ?_ hH hF ⟨rfl, rfl⟩ fun hdis => h _ _ (fun kd => ⟨#[], 0, rfl, rfl, MapKept.stamped_empty 0, by simp⟩) hdis
  simp only [execOp, ho, Option.map_none]
  exact run_value' rfl

theorem stamped_set {es : Array MapEntry} {cl : Nat} (h : MapKept.Stamped es cl) {j : Nat} {e : MapEntry} (hj : es.toList[j]? = some e) {k y : Value} (hk : e.key = k) : MapKept.Stamped (es.modify j fun e => { e with key := k, val := y }) cl := by
  refine MapKept.stamped_modify h j _ (fun _ _ => rfl) fun e' _ he' => ?_
  rw [Array.getElem?_toList, he'] at hj
  simp at hj; subst hj
  exact hk.symm

theorem wp_mup {t : TypeId} {x i v : Operand} {x' i' v' : Opd} {kd : Option IntKind} {z : Option Value} (ho : o.op = .mapUpdate t x i v ∨ o.op = .insert t x i v) (hT : mapT C.P t = some (kd, z)) (hx : cOpd x = some x') (hi : cOpd i = some i') (hv : cOpd v = some v') (hd : ∀ t, o.dst = some t → t < C.N)
    (hF : FR loc C.N σ.fr σ.pv σ.ph a) (hH : HR C loc σ.pv σ.ph σ.m w) {b : Nat} {k y : Value} (e1 : ev σ x' = some (.g (.s (.map (some b))))) (e2 : ev σ i' = some (.g (.s k))) (e3 : ev σ v' = some (.g (.s y))) (h : mupK kd b k y o.dst K σ) : o.wp C.P a w (liftK C K) Q := by
  obtain ⟨kt, et, hm, hkt, _⟩ := mapT_spec hT
  have h1 := (hF.ev rfl e1).s
  have h2 := (hF.ev rfl e2).s
  obtain ⟨h3o, h3⟩ := hF.ev rfl e3
  simp only [GV.val] at h3
  have hyo : y.oneCell' = true := h3o
  obtain ⟨ob, l, hmb, ⟨es, cl, rfl, rfl, hst, hks⟩, hk, hK⟩ := h
  have hb := hH.mle b _ hmb
  have hex : (execOp a.eval o) = (do Instr.mapUpdate t (.map (some b)) k y; pure .skip : Sem Next) := by
    rcases ho with ho | ho <;> simp only [execOp, ho, cOpd_eval hx a, cOpd_eval hi a, cOpd_eval hv a, h1, h2, h3]
  rcases find_m hk es.toList 0 (fun e he => (hks e he).1) with ⟨g1, g2, _, g4, _⟩ | ⟨j, e, g1, g2, g3, _, g5, _⟩
  · refine wp_mem (ob' := .map (es.push { key := k, val := y, born := cl }) (cl + 1)) (x := .no) (v := undef) (w1 := w) hd (.inr ⟨?_, rfl⟩) hH hF hmb rfl (hK _ ⟨_, _, rfl, ?_, MapKept.stamped_push hst g2, ?_⟩)
    · rw [hex]
      simp [Instr.mapUpdate, Sem.run_bind, run_underlying' hm, MapKept.run_getObj_map hb, MapKept.run_checkKey hkt hk, MapKept.run_findKey hkt g1, MapKept.run_setObj_map _ hb, World.setBlk]
    · rw [g4 y]; simp [kv]
    · intro e he
      simp only [Array.toList_push, List.mem_append, List.mem_singleton] at he
      rcases he with he | rfl
      · exact hks e he
      · exact ⟨hk, hyo⟩
  · have hj : es[0 + j]? = some e := by rw [Nat.zero_add, ← Array.getElem?_toList]; exact g2
    refine wp_mem (ob' := .map (es.modify j fun e => { e with key := k, val := y }) cl) (x := .no) (v := undef) (w1 := w) hd (.inr ⟨?_, rfl⟩) hH hF hmb rfl (hK _ ⟨_, _, rfl, ?_, stamped_set hst g2 g3, ?_⟩)
    · rw [hex]
      have hst' : (Instr.keyThatStays k k).run C.P w = .ok k w := MapKept.run_keyThatStays hk
      rw [Nat.zero_add] at g1 hj
      simp [Instr.mapUpdate, Sem.run_bind, run_underlying' hm, MapKept.run_getObj_map hb, MapKept.run_checkKey hkt hk, MapKept.run_findKey hkt g1, MapKept.run_setObj_map _ hb, World.setBlk, hj, g3, hst']
    · rw [g5 y]
      apply List.ext_getElem?
      intro q
      simp only [List.getElem?_map, Array.getElem?_toList, Array.getElem?_modify, List.getElem?_set, List.length_map, Array.length_toList]
      by_cases hq : j = q
      · subst hq
        have hlt : j < es.size := by
          have := (List.getElem?_eq_some_iff.1 g2).1
          simpa using this
        rw [Array.getElem?_toList] at g2
        simp [g2, hlt, kv]
      · simp [hq]
    · intro e' he'
      rw [Array.mem_toList_iff, Array.mem_iff_getElem?] at he'
      obtain ⟨q, hq⟩ := he'
      rw [Array.getElem?_modify] at hq
      split at hq
      · cases hq2 : es[q]? with
        | none => rw [hq2] at hq; simp at hq
        | some e2 => rw [hq2] at hq; simp at hq; subst hq; exact ⟨hk, hyo⟩
      · exact hks e' (by rw [Array.mem_toList_iff]; exact Array.mem_of_getElem? hq)

theorem wp_mdl {c : Call} {x i : Operand} {x' i' : Opd} {t : TypeId} {kd : Option IntKind} {z : Option Value} (ho : o.op = .call c) (hc : c.callee = .builtin .delete) (ha : c.args.toList = [x, i]) (ht : c.argTypes[0]? = some t) (hT : mapT C.P t = some (kd, z)) (hx : cOpd x = some x') (hi : cOpd i = some i') (hd : ∀ t, o.dst = some t → t < C.N)
    (hF : FR loc C.N σ.fr σ.pv σ.ph a) (hH : HR C loc σ.pv σ.ph σ.m w) {b : Nat} {k : Value} (e1 : ev σ x' = some (.g (.s (.map (some b))))) (e2 : ev σ i' = some (.g (.s k))) (h : mdlK kd b k o.dst K σ) : o.wp C.P a w (liftK C K) Q := by
  obtain ⟨kt, et, hm, hkt, _⟩ := mapT_spec hT
  have h1 := (hF.ev rfl e1).s
  have h2 := (hF.ev rfl e2).s
  obtain ⟨ob, l, hmb, ⟨es, cl, rfl, rfl, hst, hks⟩, hk, hK⟩ := h
  have hb := hH.mle b _ hmb
  have hex : execOp a.eval o = (do pure (.value (← Builtin.delete_ c.argTypes o.type #[.map (some b), k])) : Sem Next) := by
    rw [exec_builtin ho hc, args_two ha]
    simp only [List.map_toArray, List.map_cons, List.map_nil, cOpd_eval hx a, cOpd_eval hi a, h1, h2]
    rfl
  rcases find_m hk es.toList 0 (fun e he => (hks e he).1) with ⟨g1, g2, _, _, g5⟩ | ⟨j, e, g1, g2, g3, _, _, g6⟩
  · refine wp_mem (ob' := .map es cl) (x := .tup []) (v := .tuple #[]) (w1 := w) hd (.inl ?_) hH hF hmb ⟨by simp, rfl⟩ (hK _ ⟨es, cl, rfl, by rw [g5], hst, hks⟩)
    rw [hex]
    refine run_value' ?_
    simp [Builtin.delete_, ht, Sem.run_bind, run_underlying' hm, MapKept.run_getObj_map hb, MapKept.run_checkKey hkt hk, MapKept.run_findKey hkt g1, MapKept.run_setObj_map _ hb, World.setBlk]
  · refine wp_mem (ob' := .map (es.eraseIdxIfInBounds j) cl) (x := .tup []) (v := .tuple #[]) (w1 := w) hd (.inl ?_) hH hF hmb ⟨by simp, rfl⟩ (hK _ ⟨_, cl, rfl, ?_, MapKept.stamped_erase hst j, ?_⟩)
    · rw [hex]
      refine run_value' ?_
      rw [Nat.zero_add] at g1
      simp [Builtin.delete_, ht, Sem.run_bind, run_underlying' hm, MapKept.run_getObj_map hb, MapKept.run_checkKey hkt hk, MapKept.run_findKey hkt g1, MapKept.run_setObj_map _ hb, World.setBlk]
    · rw [g6]
      have hlt : j < es.size := by
        have := (List.getElem?_eq_some_iff.1 g2).1
        simpa using this
      unfold Array.eraseIdxIfInBounds
      rw [dif_pos hlt, Array.toList_eraseIdx, erase_map]
    · intro e' he'
      refine hks e' ?_
      unfold Array.eraseIdxIfInBounds at he'
      split at he'
      · rw [Array.toList_eraseIdx] at he'
        exact (List.eraseIdx_sublist _ _).subset he'
      · exact he'

theorem wp_rng {t : TypeId} {x : Operand} {x' : Opd} {kd : Option IntKind} {z : Option Value} (ho : o.op = .range t x) (hT : mapT C.P t = some (kd, z)) (hx : cOpd x = some x') (hd : ∀ t, o.dst = some t → t < C.N)
    (hF : FR loc C.N σ.fr σ.pv σ.ph a) (hH : HR C loc σ.pv σ.ph σ.m w) {b : Nat} (e1 : ev σ x' = some (.g (.s (.map (some b))))) (h : rngK C kd b o.dst K σ) : o.wp C.P a w (liftK C K) Q := by
  obtain ⟨kt, et, hm, hkt, _⟩ := mapT_spec hT
  have h1 := (hF.ev rfl e1).s
  obtain ⟨ob, l, hs, ⟨es, cl, rfl, rfl, hst, hks⟩, hK⟩ := h
  have hb := hH.seenO hs
  refine wp_allocm (ob := .mapIter (some b) cl #[] cl) (x := .g (.s (.pointer (some ⟨w.heap.size, 0, none⟩)))) (v := .pointer (some ⟨w.heap.size, 0, none⟩)) hd ?_ hH hF ⟨rfl, rfl⟩ fun hdis => hK _ _ ⟨es, cl, [], rfl, rfl, by simp, by simp, rfl⟩ hdis
  simp only [execOp, ho, cOpd_eval hx a, h1]
  refine run_value' ?_
  simp [Instr.range, Sem.run_bind, run_underlying' hm, MapKept.run_getObj_map hb]

theorem iter_all {es : Array MapEntry} {cl : Nat} (hst : MapKept.Stamped es cl) {vs : List MapEntry} (h1 : ∀ e ∈ vs, e ∈ es.toList) (h2 : (vs.map (·.born)).Nodup) (h3 : ∀ e ∈ es.toList, e.born ∈ vs.map (·.born)) : (vs.map kv).Perm (es.toList.map kv) := by
  refine List.Perm.map kv ?_
  have nd1 : vs.Nodup := nodup_of_map _ h2
  have nd2 : es.toList.Nodup := nodup_of_map _ hst.2.1
  rw [List.perm_ext_iff_of_nodup nd1 nd2]
  intro e
  refine ⟨h1 e, fun he => ?_⟩
  obtain ⟨e', he', hb⟩ := List.mem_map.1 (h3 e he)
  have : e' = e := inj_of_nodup hst.2.1 (h1 e' he') he hb
  exact this ▸ he'

theorem wp_nxt {x : Operand} {x' : Opd} (ho : o.op = .next x false) (hx : cOpd x = some x') (hd : ∀ t, o.dst = some t → t < C.N)
    (hF : FR loc C.N σ.fr σ.pv σ.ph a) (hH : HR C loc σ.pv σ.ph σ.m w) {r : Nat} (e1 : ev σ x' = some (.g (.s (.pointer (some ⟨r, 0, none⟩))))) (h : nxtK C r o.dst K σ) : o.wp C.P a w (liftK C K) Q := by
  have h1 := (hF.ev rfl e1).s
  obtain ⟨it, b, ob, kd, l, s, hr, hs, ⟨es, cl, rfl, rfl, hst, hks⟩, ⟨es', cl', vs, heq, rfl, hv1, hv2, rfl⟩, hover, hnext⟩ := h
  obtain ⟨rfl, rfl⟩ : es = es' ∧ cl = cl' := by simpa using heq
  have hb := hH.seenO hs
  have hrw := hH.mle r _ hr
  have hex : execOp a.eval o = (do pure (.value (← Instr.next (.pointer (some ⟨r, 0, none⟩)) false o.type)) : Sem Next) := by
    simp only [execOp, ho, cOpd_eval hx a, h1]
  rcases run_next_at (P := C.P) w o.type r b cl cl _ es cl hrw hb hst.1 (Nat.le_refl _) with ⟨g1, g2⟩ | ⟨e, g1, w1, g2, g3⟩
  · have hall : ∀ e ∈ es.toList, e.born ∈ vs.map (·.born) := by
      intro e he
      have hnil : leftOf es (vs.map (·.born)).toArray = #[] := Array.eq_empty_of_size_eq_zero g1
      have := Array.filter_eq_empty_iff.1 hnil e (by simpa using he)
      simpa using this
    have hp := hover (iter_all hst hv1 hv2 hall)
    obtain ⟨q1, q2, q3⟩ := σ.put_pv o.dst (.tup [.s (.bool false)])
    unfold Oper.wp
    rw [hex, run_value' g2, Oper.upon_value]
    exact ⟨_, hp, loc, by rw [q1, q2]; exact hF.put hd rfl ⟨by simp [GV.ok, Value.oneCell'], rfl⟩, by rw [q1, q2, q3]; exact hH⟩
  · have hmem : e ∈ es.toList ∧ e.born ∉ vs.map (·.born) := by
      have : e ∈ leftOf es (vs.map (·.born)).toArray := by simpa using g1
      unfold leftOf at this
      simp only [Array.mem_filter] at this
      exact ⟨by simpa using this.1, by simpa using this.2⟩
    obtain ⟨he, hnb⟩ := hmem
    have hw1 : HR C loc σ.pv σ.ph σ.m w1 := by
      rcases g2 with rfl | rfl
      · exact hH
      · exact hH.drew'
    have hke := hks e he
    have hk1 : e.key.oneCell' = true := by
      have := hke.1
      cases kd <;> cases h : e.key <;> simp_all [MapKept.IsKey, mkD, Value.oneCell']
    refine wp_mem (ob' := .mapIter (some b) cl ((vs.map (·.born)).toArray.push e.born) cl) (x := .tup [.s (.bool true), .s e.key, .s e.val]) (v := .tuple #[.bool true, e.key, e.val]) (w1 := w1) hd (.inl ?_) hw1 hF hr ⟨?_, rfl⟩ (hnext (kv e) _ (List.mem_map.2 ⟨e, he, rfl⟩) ?_ ?_)
    · rw [hex]; exact run_value' g3
    · intro y hy
      simp at hy
      rcases hy with rfl | rfl | rfl
      · rfl
      · exact hk1
      · exact hke.2
    · intro hin
      obtain ⟨e', he', hkv⟩ := List.mem_map.1 hin
      have hkk : e'.key = e.key := congrArg Prod.fst hkv
      have : e' = e := inj_of_nodup hst.2.2 (hv1 e' he') he hkk
      subst this
      exact hnb (List.mem_map.2 ⟨e', he', rfl⟩)
    · refine ⟨es, cl, vs ++ [e], rfl, by simp, ?_, ?_, by simp⟩
      · intro x hx
        rcases List.mem_append.1 hx with hx | hx
        · exact hv1 x hx
        · simp at hx; subst hx; exact he
      · rw [List.map_append, List.map_cons, List.map_nil]
        exact List.nodup_append.2 ⟨hv2, by simp, fun x hx y hy => by simp at hy; subst hy; exact fun e0 => hnb (e0 ▸ hx)⟩

/-- Memory at one's disposal is only read from now on. -/
theorem HR.frz {pv : List (Nat × PV)} {ph : List PH} {m : PH} (hH : HR C loc pv ph m w) {u m' : PH} (hm : m = uni u m') (hd : dis u m') : HR C loc pv (u :: ph) m' w := by
  have hmle : ∀ j, m j = none → u j = none ∧ m' j = none := fun j hj => by
    rw [hm] at hj
    cases h1 : u j with
    | some o => simp [uni, h1] at hj
    | none => exact ⟨rfl, by simpa [uni, h1] using hj⟩
  have hule : ∀ j o, u j = some o → m j = some o := fun j o hj => by rw [hm]; exact sub_uni_l _ _ j o hj
  have hm'le : ∀ j o, m' j = some o → m j = some o := fun j o hj => by rw [hm]; exact sub_uni_r hd j o hj
  refine ⟨hH.kept, fun k y hk => ?_, hH.apart, fun k y b o c h1 h2 h3 => ?_, fun j o hj => hH.mle j o (hm'le j o hj), fun j hj => hH.mmine j (fun e => hj (hmle j e).2), fun u' hu => ?_⟩
  · have hp := hH.pvs k y hk
    cases y with
    | box g => exact hp
    | row e z df xs => exact hp
    | ro z df xs =>
      refine ⟨hp.1, ?_⟩
      have hp2 := hp.2
      cases hl : loc k with
      | none => rw [hl] at hp2; exact hp2
      | some l =>
        obtain ⟨b, o, c⟩ := l
        rw [hl] at hp2
        obtain ⟨h1, hp3⟩ := hp2
        refine ⟨h1, fun hc => ?_⟩
        obtain ⟨u', cs, e, fz, hu, h2⟩ := hp3 hc
        exact ⟨u', cs, e, fz, hu.imp id (List.mem_cons_of_mem _), h2⟩
  · obtain ⟨e1, e2, e3⟩ := hH.priv k y b o c h1 h2 h3
    refine ⟨e1, (hmle b e2).2, fun u' hu => ?_⟩
    rcases List.mem_cons.1 hu with rfl | hu
    · exact (hmle b e2).1
    · exact e3 u' hu
  · rcases List.mem_cons.1 hu with rfl | hu
    · refine ⟨fun j o hj => hH.mle j o (hule j o hj), fun j hj => ⟨hH.mmine j (fun e => hj (hmle j e).1), (hd j).resolve_left hj⟩⟩
    · exact ⟨(hH.phs u' hu).1, fun j hj => ⟨((hH.phs u' hu).2 j hj).1, (hmle j ((hH.phs u' hu).2 j hj).2).2⟩⟩

theorem HR.addro {pv : List (Nat × PV)} {ph : List PH} {m : PH} (hH : HR C loc pv ph m w) {k z : Nat} {df : GV} {xs : List GV} {L : Nat × Nat × Nat} (hk : look pv k = none) (hnew : PVr C (fun j => if j = k then some L else loc j) ph w k (.ro z df xs)) :
    HR C (fun j => if j = k then some L else loc j) (updL pv k (.ro z df xs)) ph m w := by
  refine ⟨hH.kept, fun j y hj => ?_, fun j j' y y' b o c o' c' g1 g2 g3 g4 g5 g6 => ?_, fun j y b o c g1 g2 g3 => ?_, hH.mle, hH.mmine, hH.phs⟩
  · rw [look_upd] at hj
    split at hj
    · rename_i e; subst e
      simp at hj; subst hj
      exact hnew
    · rename_i hjk
      have hp := hH.pvs j y hj
      cases y with
      | box g => simpa [PVr, hjk] using hp
      | row e' z' df' xs' => simpa [PVr, hjk] using hp
      | ro z' df' xs' => simpa [PVr, hjk] using hp
  · rw [look_upd] at g1 g4
    by_cases hj : j = k
    · simp only [hj, if_true, Option.some.injEq] at g1; subst g1; cases g2
    · by_cases hj' : j' = k
      · simp only [hj', if_true, Option.some.injEq] at g4; subst g4; cases g5
      · simp only [hj, if_false] at g1 g3
        simp only [hj', if_false] at g4 g6
        exact hH.apart j j' y y' b o c o' c' g1 g2 g3 g4 g5 g6
  · rw [look_upd] at g1
    by_cases hj : j = k
    · simp only [hj, if_true, Option.some.injEq] at g1; subst g1; cases g2
    · simp only [hj, if_false] at g1 g3
      exact hH.priv j y b o c g1 g2 g3

theorem freeze_new {w : World} {cs : Array Value} {e : TypeId} {n : Nat} : (w.alloc (.cells cs e)).freeze ⟨w.heap.size, n, none⟩ 1 = w.alloc (.cells cs e (n, n + 1)) := by
  simp only [World.freeze, World.alloc]
  simp only [Nat.one_ne_zero, if_false]
  congr 1
  apply Array.ext_getElem?
  intro j
  simp only [Array.getElem?_modify, Array.getElem?_push]
  by_cases hj : j = w.heap.size
  · subst hj; simp
  · simp [hj, Ne.symm hj]

def s2bCs (b : ByteArray) (c : Nat) : Array Value := (b.data.map fun x => Value.int .u8 x.toNat) ++ Array.replicate (c - b.size) (Value.int .u8 0)
theorem run_s2b {P : Program} {s t e : TypeId} {b : ByteArray} (hs : P.underlying s = some .string) (ht : P.underlying t = some (.slice e)) (he : P.underlying e = some (.int .u8)) (w : World) :
    ∃ c cs, b.size ≤ c ∧ RowAt cs 0 (b.data.toList.map fun x => .int .u8 x.toNat) ∧ (convert s t (.string b)).run P w = .ok (.slice (some ⟨w.heap.size, 0, none⟩) b.size c) (w.drew.alloc (.cells cs e (cs.size, cs.size + 1))) := by
  have hq : (Question.appendCap b.size 0 e).forced = false := rfl
  refine ⟨(Question.appendCap b.size 0 e).cut (w.tape w.drawn (.appendCap b.size 0 e)), s2bCs b ((Question.appendCap b.size 0 e).cut (w.tape w.drawn (.appendCap b.size 0 e))), by simp [Question.cut], ?_, ?_⟩
  · intro j v hj
    have hlt : j < b.data.size := by
      rcases Nat.lt_or_ge j b.data.size with h | h
      · exact h
      · rw [List.getElem?_eq_none (by simpa using h)] at hj; cases hj
    unfold s2bCs
    rw [Nat.zero_add, Array.getElem?_append_left (by simpa using hlt)]
    simpa using hj
  · have hshape : ∀ (w : World) cs, (w.alloc (.cells cs e)).shape? w.heap.size = some (e, cs.size) := fun w cs => by
      unfold World.shape?
      rw [alloc_new]
    have hmark : ∀ (w : World) cs, (markStringish ⟨w.heap.size, 0, none⟩).run P (w.alloc (.cells cs e)) = .ok () (w.alloc (.cells cs e (cs.size, cs.size + 1))) := fun w cs => by
      unfold markStringish
      rw [Sem.run_bind, run_shape, hshape]
      simp only [Result.andThen_ok, run_freeze, freeze_new]
    have hnew : ∀ (w : World) cs, (newRow e cs).run P w = .ok ⟨w.heap.size, 0, none⟩ (w.alloc (.cells cs e)) := fun w cs => by
      simp [newRow, Sem.run_bind, run_newObj]
    have hch : (choose (Question.appendCap b.size 0 e)).run P w = .ok ((Question.appendCap b.size 0 e).cut (w.tape w.drawn (.appendCap b.size 0 e))) w.drew := by
      simp only [run_choose, hq, Bool.false_eq_true, if_false]
      rfl
    have hb : (Conv.stringToBytes e b).run P w = .ok (.slice (some ⟨w.heap.size, 0, none⟩) b.size ((Question.appendCap b.size 0 e).cut (w.tape w.drawn (.appendCap b.size 0 e)))) (w.drew.alloc (.cells (s2bCs b ((Question.appendCap b.size 0 e).cut (w.tape w.drawn (.appendCap b.size 0 e)))) e
        ((s2bCs b ((Question.appendCap b.size 0 e).cut (w.tape w.drawn (.appendCap b.size 0 e)))).size, (s2bCs b ((Question.appendCap b.size 0 e).cut (w.tape w.drawn (.appendCap b.size 0 e)))).size + 1))) := by
      unfold Conv.stringToBytes
      rw [Sem.run_bind, hch]
      simp only [Result.andThen_ok]
      rw [Sem.run_bind, hnew]
      simp only [Result.andThen_ok]
      rw [Sem.run_bind, hmark]
      rfl
    rw [← hb]
    simp only [convert, Sem.run_bind, run_underlying' hs, run_underlying' ht, run_underlying' he, Result.andThen_ok]

theorem wp_s2b {k : Nat} {s t e : TypeId} {x : Operand} {x' : Opd} {b : ByteArray} (ho : o.op = .convert s t x) (hs : C.P.underlying s = some .string) (ht : C.P.underlying t = some (.slice e)) (he : C.P.underlying e = some (.int .u8)) (hx : cOpd x = some x') (hd : ∀ t, o.dst = some t → t < C.N)
    (hF : FR loc C.N σ.fr σ.pv σ.ph a) (hH : HR C loc σ.pv σ.ph σ.m w) (hdst : o.dst = some k) (e1 : ev σ x' = some (.g (.s (.string b)))) (hk : look σ.pv k = none)
    (hK : ∀ u, K { σ with fr := (k, .row k 0 b.size) :: σ.fr, pv := updL σ.pv k (.ro 1 (gb 0) (b.data.toList.map gb)), ph := u :: σ.ph }) : o.wp C.P a w (liftK C K) Q := by
  have h1 := (hF.ev rfl e1).s
  obtain ⟨c, cs, hc, hat, hrun⟩ := run_s2b (b := b) hs ht he w
  have hH1 := hH.drew'
  obtain ⟨hH2, hdis⟩ := hH1.allocm (.cells cs e (cs.size, cs.size + 1))
  have hH3 := hH2.frz rfl hdis
  have hfl : flats (b.data.toList.map gb) = b.data.toList.map fun x => .int .u8 x.toNat := flats_gb _
  have hels : Els 1 (b.data.toList.map gb) := fun x hx => by
    simp only [List.mem_map] at hx
    obtain ⟨y, _, rfl⟩ := hx
    exact ⟨rfl, rfl⟩
  have hlen : (b.data.toList.map gb).length = b.size := by simp
  have hH4 := hH3.addro (k := k) (z := 1) (df := gb 0) (xs := b.data.toList.map gb) (L := (w.heap.size, 0, c)) hk ⟨hels, by
    simp only [if_true]
    refine ⟨by rw [hlen]; exact hc, fun _ => ⟨_, cs, e, (cs.size, cs.size + 1), .inr (List.mem_cons_self ..), by simp only [one]; exact if_pos rfl, ?_⟩⟩
    rw [hfl]; exact hat⟩
  unfold Oper.wp
  have hex : (execOp a.eval o).run C.P w = .ok (.value (.slice (some ⟨w.heap.size, 0, none⟩) b.size c)) (w.drew.alloc (.cells cs e (cs.size, cs.size + 1))) := by
    simp only [execOp, ho, cOpd_eval hx a, h1]
    exact run_value' hrun
  rw [hex, Oper.upon_value]
  refine ⟨_, hK _, _, ?_, hH4⟩
  have hkN := hd k hdst
  rw [hdst]
  refine ⟨Marks.up hF.defers fun u hu => List.mem_cons_of_mem _ hu, by simp [Act.put, hF.size], fun t' x hx => ?_⟩
  simp only [look] at hx
  by_cases ht' : t' = k
  · simp only [ht', if_true, Option.some.injEq] at hx
    subst hx; subst ht'
    refine ⟨_, by simp [Act.put, hF.size, hkN]; rfl, 1, b.data.toList.map gb, by simp [rowE, look_upd], by rw [hlen]; omega, ?_⟩
    simp [SlcV]
  · simp only [ht', if_false] at hx
    obtain ⟨v, hv, hr⟩ := hF.slots t' x hx
    refine ⟨v, by simp only [Act.put]; rw [Array.getElem?_setIfInBounds_ne (fun e => ht' e.symm)]; exact hv, hr.weaken fun j hj => ?_⟩
    have hjk : j ≠ k := fun e => hr.there j hj (e ▸ hk)
    exact ⟨by simp [hjk], by simp [look_upd, hjk]⟩
end
end Go.Proofs.YtmjiojflncffeaaGreat.Vc

/- Maps whose keys are two numbers: what the operations on them do. -/
set_option linter.unusedVariables false
set_option linter.unusedSimpArgs false
namespace Go.Proofs.YtmjiojflncffeaaGreat.Vc
open Go

theorem stamped_set' {es : Array MapEntry} {cl : Nat} (h : MapKept.Stamped es cl) {j : Nat} {e : MapEntry} (hj : es.toList[j]? = some e) {k : Value} (hk : e.key = k) : MapKept.Stamped (es.modify j fun e => { e with key := k }) cl := by
  refine MapKept.stamped_modify h j _ (fun _ _ => rfl) fun e' _ he' => ?_
  rw [Array.getElem?_toList, he'] at hj
  simp at hj; subst hj
  exact hk.symm
/-- A type of two numbers, as a key. -/
structure Key2 (P : Program) (k : TypeId) (fs : Array Field) (f0 f1 : Field) : Prop where
  ty : P.underlying k = some (.struct fs)
  fs : fs.toList = [f0, f1]
  held : P.stoodInHeld k = false
  o0 : f0.offset = 0
  o1 : f1.offset = 1
  n0 : f0.name ≠ "_"
  n1 : f1.name ≠ "_"
  t0 : P.underlying f0.type = some (.int .i64)
  t1 : P.underlying f1.type = some (.int .i64)
theorem isI64_iff {d : Option TypeDesc} (h : isI64 d = true) : d = some (.int .i64) := by
  unfold isI64 at h
  split at h
  · rfl
  · cases h
theorem map2T_spec {P : Program} {t : TypeId} {z : Option Value} (h : map2T P t = some z) :
    ∃ k e fs f0 f1, P.underlying t = some (.map k e) ∧ Key2 P k fs f0 f1 ∧ ∀ v, z = some v → v.oneCell' = true ∧ ∃ i, P.info? e = some i ∧ i.zero = some v := by
  unfold map2T at h
  split at h <;> first | (cases h; done) | skip
  rename_i k e hm
  split at h <;> first | (cases h; done) | skip
  rename_i fs hk
  split at h <;> first | (cases h; done) | skip
  rename_i f0 f1 hf
  split at h <;> first | (cases h; done) | skip
  rename_i hc
  simp only [Bool.and_eq_true, beq_iff_eq, bne_iff_ne, ne_eq, Bool.not_eq_true'] at hc
  obtain ⟨⟨⟨⟨⟨⟨c1, c2⟩, c3⟩, c4⟩, c5⟩, c6⟩, c7⟩ := hc
  simp only [Option.some.injEq] at h
  refine ⟨k, e, fs, f0, f1, hm, ⟨hk, hf, c5, c1, c2, c3, c4, isI64_iff c6, isI64_iff c7⟩, fun v hv => ?_⟩
  subst h
  split at hv
  · rename_i z' hz'
    split at hv
    · rename_i h1
      simp at hv; subst hv
      obtain ⟨i, hi, hz⟩ := Option.bind_eq_some_iff.mp hz'
      exact ⟨h1, i, hi, hz⟩
    · cases hv
  · cases hv

section
variable {P : Program} {kt : TypeId} {fs : Array Field} {f0 f1 : Field}
theorem run_part_i {t : TypeId} (h : P.underlying t = some (.int .i64)) {xs : Array Value} {off : Nat} {v : Value} (hx : xs[off]? = some v) (w : World) : (part t xs off).run P w = .ok v w := by
  simp [part, isAgg, Sem.run_bind, run_underlying' h, hx]
theorem Key2.fields (h : Key2 P kt fs f0 f1) : P.fieldsOf kt = fs := by simp [Program.fieldsOf, h.ty]
theorem run_eq2 (h : Key2 P kt fs f0 f1) (a b : Int × Int) (d : Nat) (w : World) : (Op.equalIn (d + 2) kt (k2 a) (k2 b)).run P w = .ok (decide (a = b)) w := by
  obtain ⟨a1, a2⟩ := a
  obtain ⟨b1, b2⟩ := b
  unfold k2
  rw [run_equalIn_struct w (d + 1) kt _ _ (by rw [h.fields]; exact h.ty) h.held, h.fields, h.fs]
  have p0 := run_part_i (P := P) h.t0 (xs := #[.int .i64 a1, .int .i64 a2]) (off := f0.offset) (v := .int .i64 a1) (by rw [h.o0]; rfl) w
  have p1 := run_part_i (P := P) h.t1 (xs := #[.int .i64 a1, .int .i64 a2]) (off := f1.offset) (v := .int .i64 a2) (by rw [h.o1]; rfl) w
  have q0 := run_part_i (P := P) h.t0 (xs := #[.int .i64 b1, .int .i64 b2]) (off := f0.offset) (v := .int .i64 b1) (by rw [h.o0]; rfl) w
  have q1 := run_part_i (P := P) h.t1 (xs := #[.int .i64 b1, .int .i64 b2]) (off := f1.offset) (v := .int .i64 b2) (by rw [h.o1]; rfl) w
  have r0 := run_equalIn_int (P := P) w d f0.type .i64 .i64 a1 b1 h.t0
  have r1 := run_equalIn_int (P := P) w d f1.type .i64 .i64 a2 b2 h.t1
  have hd : decide (((a1, a2) : Int × Int) = (b1, b2)) = ((a1 == b1) && (a2 == b2)) := by
    by_cases h1 : a1 = b1 <;> by_cases h2 : a2 = b2 <;> simp [h1, h2]
  rw [hd]
  simp only [Op.eqFields, h.n0, h.n1, ne_eq, not_false_eq_true, if_true, Sem.run_bind, p0, q0, r0, Result.andThen_ok]
  cases (a1 == b1) with
  | false => simp
  | true =>
    simp only [Bool.not_true, Bool.false_eq_true, if_false, Sem.run_bind, p1, q1, r1, Result.andThen_ok, Bool.true_and]
    cases (a2 == b2) <;> simp
theorem run_check2 (h : Key2 P kt fs f0 f1) (k : Int × Int) (e : Bool) (n : Nat) (w : World) : (Instr.checkKey e (n + 2) kt (k2 k)).run P w = .ok () w := by
  have p0 := run_part_i (P := P) h.t0 (xs := #[.int .i64 k.1, .int .i64 k.2]) (off := f0.offset) (v := .int .i64 k.1) (by rw [h.o0]; rfl) w
  have p1 := run_part_i (P := P) h.t1 (xs := #[.int .i64 k.1, .int .i64 k.2]) (off := f1.offset) (v := .int .i64 k.2) (by rw [h.o1]; rfl) w
  have c : ∀ (t : TypeId) (x : Int), P.underlying t = some (.int .i64) → (Instr.checkKey e (n + 1) t (.int .i64 x)).run P w = .ok () w := fun t x ht => MapKept.run_checkKey (d := .int .i64) (k := .int .i64 x) ht rfl e n
  unfold Instr.checkKey k2
  rw [Sem.run_bind, run_underlying' h.ty]
  simp only [Result.andThen_ok]
  rw [← Array.forIn_toList, h.fs]
  simp [Sem.run_bind, h.n0, h.n1, p0, p1, c _ _ h.t0, c _ _ h.t1]
theorem k2_inj {a b : Int × Int} (h : k2 a = k2 b) : a = b := by
  obtain ⟨a1, a2⟩ := a
  obtain ⟨b1, b2⟩ := b
  simpa [k2] using h
theorem ask2 (h : Key2 P kt fs f0 f1) (k : Int × Int) (w : World) : ∀ (l : List MapEntry) (L : List ((Int × Int) × Value)) (i : Nat), l.map kv = L.map (fun p => (k2 p.1, p.2)) →
    ((Instr.findAsking kt (k2 k) l i).run P w = .ok none w ∧ (∀ x ∈ l, x.key ≠ k2 k) ∧ mget2 L k = none ∧ (∀ y, mput2 L k y = L ++ [(k, y)])) ∨
    ∃ j e, (Instr.findAsking kt (k2 k) l i).run P w = .ok (some (i + j, e.val)) w ∧ l[j]? = some e ∧ e.key = k2 k ∧ mget2 L k = some e.val ∧ (∀ y, mput2 L k y = L.set j (k, y))
  | [], L, i, hL => by
    have : L = [] := by simpa using hL.symm
    subst this
    exact .inl ⟨by simp [Instr.findAsking], by simp, rfl, fun _ => rfl⟩
  | e :: l, [], i, hL => by simp at hL
  | e :: l, (k', v) :: L, i, hL => by
    simp only [List.map_cons, List.cons.injEq] at hL
    obtain ⟨h1, h2⟩ := hL
    simp only [kv, Prod.mk.injEq] at h1
    obtain ⟨hk, rfl⟩ := h1
    have hr : (Op.equal kt (k2 k) e.key).run P w = .ok (decide (k = k')) w := by rw [hk]; exact run_eq2 h k k' 9998 w
    by_cases hkk : k' = k
    · subst hkk
      refine .inr ⟨0, e, by simp [Instr.findAsking, Sem.run_bind, hr], rfl, hk, by simp [mget2], fun y => by simp [mput2]⟩
    · have hkk' : ¬ k = k' := fun q => hkk q.symm
      have hne : e.key ≠ k2 k := fun q => hkk (k2_inj (hk.symm.trans q))
      rcases ask2 h k w l L (i + 1) h2 with ⟨g1, g2, g3, g4⟩ | ⟨j, e', g1, g2, g3, g4, g5⟩
      · refine .inl ⟨by simp [Instr.findAsking, Sem.run_bind, hr, hkk', g1], ?_, by simp [mget2, hkk, g3], fun y => by simp [mput2, hkk, g4]⟩
        intro x hx
        rcases List.mem_cons.1 hx with rfl | hx
        · exact hne
        · exact g2 x hx
      · exact .inr ⟨j + 1, e', by simp [Instr.findAsking, Sem.run_bind, hr, hkk', g1]; omega, by simpa using g2, g3, by simp [mget2, hkk, g4], fun y => by simp [mput2, hkk, g5]⟩
theorem find2 (h : Key2 P kt fs f0 f1) (k : Int × Int) (w : World) (l : List MapEntry) (L : List ((Int × Int) × Value)) (hL : l.map kv = L.map (fun p => (k2 p.1, p.2))) :
    ((Instr.findKey kt (k2 k) l).run P w = .ok none w ∧ (∀ x ∈ l, x.key ≠ k2 k) ∧ mget2 L k = none ∧ (∀ y, mput2 L k y = L ++ [(k, y)])) ∨
    ∃ j e, (Instr.findKey kt (k2 k) l).run P w = .ok (some (j, e.val)) w ∧ l[j]? = some e ∧ e.key = k2 k ∧ mget2 L k = some e.val ∧ (∀ y, mput2 L k y = L.set j (k, y)) := by
  have e1 : (Instr.findKey kt (k2 k) l).run P w = (Instr.findAsking kt (k2 k) l 0).run P w := by
    unfold Instr.findKey
    rw [Sem.run_bind, run_underlying' h.ty]
    simp only [Result.andThen_ok]
    cases l with
    | nil => simp [Instr.findNow, Instr.findAsking]
    | cons e l => simp [Instr.findNow, Instr.sameNow]
  rw [e1]
  rcases ask2 h k w l L 0 hL with g | ⟨j, e, g1, g2⟩
  · exact .inl g
  · exact .inr ⟨j, e, by rw [g1, Nat.zero_add], g2⟩
theorem mget2_one {l : List ((Int × Int) × Value)} (h : ∀ p ∈ l, p.2.oneCell' = true) {k : Int × Int} {v : Value} (hv : mget2 l k = some v) : v.oneCell' = true := by
  induction l with
  | nil => cases hv
  | cons p l ih =>
    obtain ⟨k', u⟩ := p
    simp only [mget2] at hv
    split at hv
    · cases hv; exact h (k', v) (by simp)
    · exact ih (fun p hp => h p (by simp [hp])) hv
theorem mput2_one {l : List ((Int × Int) × Value)} (h : ∀ p ∈ l, p.2.oneCell' = true) (k : Int × Int) {y : Value} (hy : y.oneCell' = true) : ∀ p ∈ mput2 l k y, p.2.oneCell' = true := by
  induction l with
  | nil => intro p hp; simp [mput2] at hp; subst hp; exact hy
  | cons q l ih =>
    obtain ⟨k', u⟩ := q
    intro p hp
    simp only [mput2] at hp
    split at hp
    · rcases List.mem_cons.1 hp with rfl | hp
      · exact hy
      · exact h p (by simp [hp])
    · rcases List.mem_cons.1 hp with rfl | hp
      · exact h _ (by simp)
      · exact ih (fun p hp => h p (by simp [hp])) p hp
end

section
variable {C : Ctx} {loc : Loc} {σ : SS} {a : Act} {o : Oper} {w : World} {K : KT} {Q : Exit → Act → World → Prop}
theorem rd_mlk2 {t : TypeId} {x i : Operand} {x' i' : Opd} {ok : Bool} {z : Value} (ho : o.op = .lookup t x i ok) (hT : map2T C.P t = some (some z)) (hx : cOpd x = some x') (hi : cOpd i = some i') (hF : FR loc C.N σ.fr σ.pv σ.ph a)
    {b : Nat} {k : Int × Int} (e1 : ev σ x' = some (.g (.s (.map (some b))))) (e2 : ev σ i' = some (.g (gk2 k))) {ob : Obj} {l : List ((Int × Int) × Value)} (hs : SeenO C σ.ph σ.m b ob) (hI : Map2 ob l) :
    Reads C loc σ o a (lkS2 l k z ok) := by
  have h1 := (hF.ev rfl e1).s
  obtain ⟨_, h2⟩ := hF.ev rfl e2
  have h2 : evO a i' = k2 k := h2
  obtain ⟨kt, et, fs, f0, f1, hm, hk2, hz⟩ := map2T_spec hT
  obtain ⟨hz1, inf, hinf, hz2⟩ := hz z rfl
  obtain ⟨es, cl, rfl, hl, hst, hks⟩ := hI
  have hvo : ((mget2 l k).getD z).oneCell' = true := by
    cases hg : mget2 l k with
    | none => exact hz1
    | some v => exact mget2_one hks hg
  have hrun : ∀ w, HR C loc σ.pv σ.ph σ.m w → (Instr.lookup t (.map (some b)) (k2 k) ok).run C.P w = .ok (if ok then .tuple #[(mget2 l k).getD z, .bool (mget2 l k).isSome] else (mget2 l k).getD z) w := by
    intro w hw
    have hb := hw.seenO hs
    have hzr : ∀ w, (zeroValue et).run C.P w = .ok z w := fun w => by simp [zeroValue, Sem.run_bind, run_typeInfo hinf, hz2]
    have hck : ∀ e, (Instr.checkKey e 10000 kt (k2 k)).run C.P w = .ok () w := fun e => run_check2 hk2 k e 9998 w
    rcases find2 hk2 k w es.toList l hl with ⟨g1, _, g3, _⟩ | ⟨j, e, g1, _, _, g4, _⟩
    · cases ok <;> simp [Instr.lookup, Sem.run_bind, run_underlying' hm, MapKept.run_getObj_map hb, hck, g1, hzr, g3]
    · cases ok <;> simp [Instr.lookup, Sem.run_bind, run_underlying' hm, MapKept.run_getObj_map hb, hck, g1, hzr, g4]
  refine rd_valL (isPure_lookup' ho) (s := Instr.lookup t (.map (some b)) (k2 k) ok) (v := if ok then .tuple #[(mget2 l k).getD z, .bool (mget2 l k).isSome] else (mget2 l k).getD z) ?_ (by simp only [execOp, ho, cOpd_eval hx a, cOpd_eval hi a, h1, h2]) fun w hw => hrun w hw
  cases ok with
  | true => exact ⟨fun y hy => by simp at hy; rcases hy with rfl | rfl; exact hvo; rfl, rfl⟩
  | false => exact ⟨hvo, rfl⟩
theorem wp_mup2 {t : TypeId} {x i v : Operand} {x' i' v' : Opd} {z : Option Value} (ho : o.op = .mapUpdate t x i v ∨ o.op = .insert t x i v) (hT : map2T C.P t = some z) (hx : cOpd x = some x') (hi : cOpd i = some i') (hv : cOpd v = some v') (hd : ∀ t, o.dst = some t → t < C.N)
    (hF : FR loc C.N σ.fr σ.pv σ.ph a) (hH : HR C loc σ.pv σ.ph σ.m w) {b : Nat} {g : GV} {y : Value} (e1 : ev σ x' = some (.g (.s (.map (some b))))) (e2 : ev σ i' = some (.g g)) (e3 : ev σ v' = some (.g (.s y))) (h : mup2K b g y o.dst K σ) : o.wp C.P a w (liftK C K) Q := by
  obtain ⟨kt, et, fs, f0, f1, hm, hk2, _⟩ := map2T_spec hT
  obtain ⟨k, ob, l, rfl, hmb, ⟨es, cl, rfl, hl, hst, hks⟩, hK⟩ := h
  have h1 := (hF.ev rfl e1).s
  obtain ⟨_, h2⟩ := hF.ev rfl e2
  have h2 : evO a i' = k2 k := h2
  obtain ⟨h3o, h3⟩ := hF.ev rfl e3
  simp only [GV.val] at h3
  have hyo : y.oneCell' = true := h3o
  have hb := hH.mle b _ hmb
  have hck : ∀ e, (Instr.checkKey e 10000 kt (k2 k)).run C.P w = .ok () w := fun e => run_check2 hk2 k e 9998 w
  have hex : (execOp a.eval o) = (do Instr.mapUpdate t (.map (some b)) (k2 k) y; pure .skip : Sem Next) := by
    rcases ho with ho | ho <;> simp only [execOp, ho, cOpd_eval hx a, cOpd_eval hi a, cOpd_eval hv a, h1, h2, h3]
  rcases find2 hk2 k w es.toList l hl with ⟨g1, g2, _, g4⟩ | ⟨j, e, g1, g2, g3, _, g5⟩
  · refine wp_mem (ob' := .map (es.push { key := k2 k, val := y, born := cl }) (cl + 1)) (x := .no) (v := undef) (w1 := w) hd (.inr ⟨?_, rfl⟩) hH hF hmb rfl (hK _ ⟨_, _, rfl, ?_, MapKept.stamped_push hst g2, mput2_one hks k hyo⟩)
    · rw [hex]
      simp [Instr.mapUpdate, Sem.run_bind, run_underlying' hm, MapKept.run_getObj_map hb, hck, g1, MapKept.run_setObj_map _ hb, World.setBlk]
    · rw [g4 y]; simp [kv, hl]
  · have hj : es[j]? = some e := by rw [← Array.getElem?_toList]; exact g2
    refine wp_mem (ob' := .map (es.modify j fun e => { e with key := k2 k, val := y }) cl) (x := .no) (v := undef) (w1 := w) hd (.inr ⟨?_, rfl⟩) hH hF hmb rfl (hK _ ⟨_, _, rfl, ?_, stamped_set hst g2 g3, mput2_one hks k hyo⟩)
    · rw [hex]
      have hst' : (Instr.keyThatStays (k2 k) (k2 k)).run C.P w = .ok (k2 k) w := by
        have : Instr.sameBits 10000 (k2 k) (k2 k) = true := by simp [Instr.sameBits, k2]
        simp [Instr.keyThatStays, this]
      simp [Instr.mapUpdate, Sem.run_bind, run_underlying' hm, MapKept.run_getObj_map hb, hck, g1, MapKept.run_setObj_map _ hb, World.setBlk, hj, g3, hst']
    · rw [g5 y, List.map_set, ← hl]
      apply List.ext_getElem?
      intro q
      simp only [List.getElem?_map, Array.getElem?_toList, Array.getElem?_modify, List.getElem?_set, List.length_map, Array.length_toList]
      by_cases hq : j = q
      · subst hq
        have hlt : j < es.size := by
          have := (List.getElem?_eq_some_iff.1 g2).1
          simpa using this
        rw [Array.getElem?_toList] at g2
        simp [g2, hlt, kv]
      · simp [hq]
theorem mput2_ens {l : List ((Int × Int) × Value)} {k : Int × Int} {z y : Value} : mput2 (mens2 l k z) k y = mput2 l k y := by
  unfold mens2
  cases h : mget2 l k with
  | some v => simp
  | none =>
    simp only [Option.isSome_none, Bool.false_eq_true, if_false]
    induction l with
    | nil => simp [mput2]
    | cons p l ih =>
      obtain ⟨k', u⟩ := p
      simp only [mget2] at h
      split at h
      · cases h
      · rename_i hne
        simp only [List.cons_append, mput2, hne, if_false]
        rw [ih h]
theorem mget2_ens {l : List ((Int × Int) × Value)} {k : Int × Int} {z : Value} : (mget2 (mens2 l k z) k).getD z = (mget2 l k).getD z := by
  unfold mens2
  cases h : mget2 l k with
  | some v => simp [h]
  | none =>
    simp only [Option.isSome_none, Bool.false_eq_true, if_false]
    induction l with
    | nil => simp [mget2]
    | cons p l ih =>
      obtain ⟨k', u⟩ := p
      simp only [mget2] at h
      split at h
      · cases h
      · rename_i hne
        simp only [List.cons_append, mget2, hne, if_false]
        exact ih h
theorem set_same2 {es : Array MapEntry} {j : Nat} {e : MapEntry} {l : List ((Int × Int) × Value)} {k : Int × Int} (hl : es.toList.map kv = l.map (fun p => (k2 p.1, p.2))) (g2 : es.toList[j]? = some e) (f : MapEntry → MapEntry) {y : Value} (hf : kv (f e) = (k2 k, y)) :
    (es.modify j f).toList.map kv = (l.set j (k, y)).map (fun p => (k2 p.1, p.2)) := by
  rw [List.map_set, ← hl]
  apply List.ext_getElem?
  intro q
  simp only [List.getElem?_map, Array.getElem?_toList, Array.getElem?_modify, List.getElem?_set, List.length_map, Array.length_toList]
  by_cases hq : j = q
  · subst hq
    have hlt : j < es.size := by
      have := (List.getElem?_eq_some_iff.1 g2).1
      simpa using this
    rw [Array.getElem?_toList] at g2
    have h3 : es[j] = e := by rw [Array.getElem?_eq_getElem hlt] at g2; exact Option.some.inj g2
    simp [hlt, h3, hf]
  · simp [hq]
theorem wp_men2 {t : TypeId} {x i : Operand} {x' i' : Opd} {z : Value} (ho : o.op = .mapEntry t x i) (hT : map2T C.P t = some (some z)) (hx : cOpd x = some x') (hi : cOpd i = some i') (hd : ∀ t, o.dst = some t → t < C.N)
    (hF : FR loc C.N σ.fr σ.pv σ.ph a) (hH : HR C loc σ.pv σ.ph σ.m w) {b : Nat} {g : GV} (e1 : ev σ x' = some (.g (.s (.map (some b))))) (e2 : ev σ i' = some (.g g)) (h : men2K b g z o.dst K σ) : o.wp C.P a w (liftK C K) Q := by
  obtain ⟨kt, et, fs, f0, f1, hm, hk2, hz⟩ := map2T_spec hT
  obtain ⟨hz1, inf, hinf, hz2⟩ := hz z rfl
  obtain ⟨k, ob, l, rfl, hmb, ⟨es, cl, rfl, hl, hst, hks⟩, hK⟩ := h
  have h1 := (hF.ev rfl e1).s
  obtain ⟨_, h2⟩ := hF.ev rfl e2
  have h2 : evO a i' = k2 k := h2
  have hb := hH.mle b _ hmb
  have hck : ∀ e, (Instr.checkKey e 10000 kt (k2 k)).run C.P w = .ok () w := fun e => run_check2 hk2 k e 9998 w
  have hzr : ∀ w, (zeroValue et).run C.P w = .ok z w := fun w => by simp [zeroValue, Sem.run_bind, run_typeInfo hinf, hz2]
  have hex : (execOp a.eval o) = (do pure (.value (← Instr.mapEntry t (.map (some b)) (k2 k))) : Sem Next) := by
    simp only [execOp, ho, cOpd_eval hx a, cOpd_eval hi a, h1, h2]
  rcases find2 hk2 k w es.toList l hl with ⟨g1, g2, g3, g4⟩ | ⟨j, e, g1, g2, g3, g4, g5⟩
  · have hn : mens2 l k z = l ++ [(k, z)] := by simp [mens2, g3]
    refine wp_mem (ob' := .map (es.push { key := k2 k, val := z, born := cl }) (cl + 1)) (x := .tup [.s z, .s (.int .i64 cl)]) (v := .tuple #[z, .int .i64 cl]) (w1 := w) hd (.inl ?_) hH hF hmb ⟨fun y hy => by simp at hy; rcases hy with rfl | rfl; exact hz1; rfl, rfl⟩ ?_
    · rw [hex]
      refine run_value' ?_
      simp [Instr.mapEntry, Sem.run_bind, run_underlying' hm, MapKept.run_getObj_map hb, hck, g1, hzr, MapKept.run_setObj_map _ hb, World.setBlk, goInt]
    · have := hK (.map (es.push { key := k2 k, val := z, born := cl }) (cl + 1)) cl ⟨_, _, rfl, by rw [hn]; simp [kv, hl], MapKept.stamped_push hst g2, by rw [hn]; intro p hp; rcases List.mem_append.1 hp with hp | hp; exact hks p hp; simp at hp; subst hp; exact hz1⟩ ⟨_, _, rfl, ⟨{ key := k2 k, val := z, born := cl }, by simp, rfl, rfl⟩⟩
      rw [g3] at this
      exact this
  · have hj : es[j]? = some e := by rw [← Array.getElem?_toList]; exact g2
    have hn : mens2 l k z = l := by simp [mens2, g4]
    have he1 : e.val.oneCell' = true := mget2_one hks g4
    refine wp_mem (ob' := .map (es.modify j fun e => { e with key := k2 k }) cl) (x := .tup [.s e.val, .s (.int .i64 e.born)]) (v := .tuple #[e.val, .int .i64 e.born]) (w1 := w) hd (.inl ?_) hH hF hmb ⟨fun y hy => by simp at hy; rcases hy with rfl | rfl; exact he1; rfl, rfl⟩ ?_
    · rw [hex]
      refine run_value' ?_
      have hst' : (Instr.keyThatStays (k2 k) (k2 k)).run C.P w = .ok (k2 k) w := by
        have : Instr.sameBits 10000 (k2 k) (k2 k) = true := by simp [Instr.sameBits, k2]
        simp [Instr.keyThatStays, this]
      simp [Instr.mapEntry, Sem.run_bind, run_underlying' hm, MapKept.run_getObj_map hb, hck, g1, hj, g3, hst', MapKept.run_setObj_map _ hb, World.setBlk, goInt]
    · have hlset : l.set j (k, e.val) = l := by
        have hlj : l[j]? = some (k, e.val) := by
          have h5 := congrArg (fun q => q[j]?) hl
          simp only [List.getElem?_map, g2, Option.map_some] at h5
          cases hq : l[j]? with
          | none => rw [hq] at h5; cases h5
          | some p =>
            rw [hq] at h5
            simp only [Option.map_some, Option.some.injEq, kv, Prod.mk.injEq] at h5
            obtain ⟨h6, h7⟩ := h5
            rw [g3] at h6
            obtain ⟨p1, p2⟩ := p
            simp only at h6 h7
            rw [k2_inj h6, h7]
        apply List.ext_getElem?
        intro q
        rw [List.getElem?_set]
        split
        · rename_i hjq; subst hjq
          split
          · exact hlj.symm
          · rename_i hlt; rw [List.getElem?_eq_none (by omega)]
        · rfl
      have hlt : j < es.size := (Array.getElem?_eq_some_iff.1 hj).1
      have := hK (.map (es.modify j fun e => { e with key := k2 k }) cl) e.born ⟨_, _, rfl, by rw [hn, ← hlset]; rw [hlset]; rw [set_same2 hl g2 (fun e => { e with key := k2 k }) (k := k) (y := e.val) rfl, hlset], stamped_set' hst g2 g3, by rw [hn]; exact hks⟩
        ⟨_, _, rfl, ⟨{ e with key := k2 k }, by rw [Array.mem_toList_iff]; exact Array.mem_of_getElem? (i := j) (by rw [Array.getElem?_modify, if_pos rfl, hj]; rfl), rfl, rfl⟩⟩
      rw [g4] at this
      exact this
theorem wp_mes2 {t : TypeId} {x s v : Operand} {x' s' v' : Opd} {z : Option Value} (ho : o.op = .entryStore t x s v) (hT : map2T C.P t = some z) (hx : cOpd x = some x') (hs : cOpd s = some s') (hv : cOpd v = some v') (hd : ∀ t, o.dst = some t → t < C.N)
    (hF : FR loc C.N σ.fr σ.pv σ.ph a) (hH : HR C loc σ.pv σ.ph σ.m w) {b : Nat} {sv y : Value} (e1 : ev σ x' = some (.g (.s (.map (some b))))) (e2 : ev σ s' = some (.g (.s sv))) (e3 : ev σ v' = some (.g (.s y))) (h : mes2K b sv y o.dst K σ) : o.wp C.P a w (liftK C K) Q := by
  obtain ⟨kt, et, fs, f0, f1, hm, hk2, _⟩ := map2T_spec hT
  obtain ⟨k, ob, l, β, rfl, hmb, ⟨es, cl, rfl, hl, hst, hks⟩, ⟨es', cl', heq, e, he, hek, heb⟩, hK⟩ := h
  obtain ⟨rfl, rfl⟩ : es = es' ∧ cl = cl' := by simpa using heq
  have h1 := (hF.ev rfl e1).s
  have h2 := (hF.ev rfl e2).s
  obtain ⟨h3o, h3⟩ := hF.ev rfl e3
  simp only [GV.val] at h3
  have hyo : y.oneCell' = true := h3o
  have hb := hH.mle b _ hmb
  have hex : (execOp a.eval o) = (do Instr.entryStore t (.map (some b)) (.int .i64 β) y; pure .skip : Sem Next) := by
    simp only [execOp, ho, cOpd_eval hx a, cOpd_eval hs a, cOpd_eval hv a, h1, h2, h3]
  -- the entry that find2 finds is this one
  rcases find2 hk2 k w es.toList l hl with ⟨_, g2, _, _⟩ | ⟨j, e', _, g2, g3, g4, g5⟩
  · exact absurd hek (g2 e he)
  have hee : e' = e := inj_of_nodup (f := fun x : MapEntry => x.key) hst.2.2 (List.mem_of_getElem? g2) he (g3.trans hek.symm)
  subst hee
  have hj : es[j]? = some e' := by rw [← Array.getElem?_toList]; exact g2
  have hlt : j < es.size := (Array.getElem?_eq_some_iff.1 hj).1
  have hfi : es.findIdx? (fun e => (e.born : Int) == β) = some j := by
    rw [Array.findIdx?_eq_some_iff_getElem]
    refine ⟨hlt, ?_, fun i hi => ?_⟩
    · have : es[j] = e' := by rw [Array.getElem?_eq_getElem hlt] at hj; exact Option.some.inj hj
      rw [this, heb]; simp
    · intro hc
      have hil : i < es.size := by omega
      have h6 : (es[i].born : Int) = β := by simpa using hc
      have h7 : es[i] = e' := inj_of_nodup (f := fun x : MapEntry => x.born) hst.2.1 (by rw [Array.mem_toList_iff]; exact Array.getElem_mem hil) he (by show es[i].born = e'.born; omega)
      have h8 : es.toList[i]? = es.toList[j]? := by rw [Array.getElem?_toList, Array.getElem?_toList, hj, Array.getElem?_eq_getElem hil, h7]
      have hnd := nodup_of_map _ hst.2.1
      have := (List.getElem?_inj (by simpa using hil) hnd).1 h8
      omega
  refine wp_mem (ob' := .map (es.modify j fun e => { e with val := y }) cl) (x := .no) (v := undef) (w1 := w) hd (.inr ⟨?_, rfl⟩) hH hF hmb rfl (hK _ ⟨_, _, rfl, ?_, ?_, mput2_one hks k hyo⟩)
  · rw [hex]
    simp [Instr.entryStore, Sem.run_bind, MapKept.run_getObj_map hb, asInt, asIntOf, hfi, MapKept.run_setObj_map _ hb, World.setBlk]
  · rw [g5 y]
    exact set_same2 hl g2 _ (by simp [kv, g3])
  · exact MapKept.stamped_modify hst _ _ (fun _ _ => rfl) (fun _ _ _ => rfl)
/-! ### Maps of structs -/
theorem scEq_eq {a b : Value} (h : scEq a b = true) : a = b := by
  unfold scEq at h
  split at h <;> first | (cases h; done) | rfl | skip
  · simp at h; simp [h.1, h.2]
  · simpa using h
  · simp at h
    rename_i x y
    congr 1
    exact ByteArray.ext (by simpa using h)

theorem scEqL_eq : ∀ {a b : List Value}, scEqL a b = true → a = b
  | [], [], _ => rfl
  | x :: a, y :: b, h => by
    simp [scEqL] at h
    rw [scEq_eq h.1, scEqL_eq h.2]
  | [], _ :: _, h => by simp [scEqL] at h
  | _ :: _, [], h => by simp [scEqL] at h

theorem okB_ok : ∀ {g : GV}, okB g = true → g.ok
  | .s v, h => h
  | .u, _ => trivial
  | .c h t, e => by
    simp [okB] at e
    exact ⟨okB_ok e.1, okB_ok e.2⟩
  | .ar n e f, h => by
    simp [okB] at h
    intro j hj
    exact ⟨okB_ok (h j hj).1, (h j hj).2⟩

theorem mget2_G (l : List ((Int × Int) × GV)) (k : Int × Int) : mget2 (l.map fun p => (p.1, p.2.val)) k = (mgetG l k).map GV.val := by
  induction l with
  | nil => rfl
  | cons p l ih =>
    obtain ⟨k', y'⟩ := p
    simp only [List.map_cons, mget2, mgetG]
    split
    · rfl
    · exact ih
theorem mput2_G (l : List ((Int × Int) × GV)) (k : Int × Int) (y : GV) : mput2 (l.map fun p => (p.1, p.2.val)) k y.val = (mputG l k y).map fun p => (p.1, p.2.val) := by
  induction l with
  | nil => rfl
  | cons p l ih =>
    obtain ⟨k', y'⟩ := p
    simp only [List.map_cons, mput2, mputG]
    split
    · rfl
    · simp only [List.map_cons]; rw [ih]
theorem mgetG_ok {l : List ((Int × Int) × GV)} (h : ∀ p ∈ l, p.2.ok) {k : Int × Int} {v : GV} (hv : mgetG l k = some v) : v.ok := by
  induction l with
  | nil => cases hv
  | cons p l ih =>
    obtain ⟨k', y'⟩ := p
    simp only [mgetG] at hv
    split at hv
    · cases hv; exact h (k', v) (by simp)
    · exact ih (fun p hp => h p (by simp [hp])) hv
theorem mputG_ok {l : List ((Int × Int) × GV)} (h : ∀ p ∈ l, p.2.ok) (k : Int × Int) {y : GV} (hy : y.ok) : ∀ p ∈ mputG l k y, p.2.ok := by
  induction l with
  | nil => intro p hp; simp [mputG] at hp; subst hp; exact hy
  | cons q l ih =>
    obtain ⟨k', y'⟩ := q
    intro p hp
    simp only [mputG] at hp
    split at hp
    · rcases List.mem_cons.1 hp with rfl | hp
      · exact hy
      · exact h p (by simp [hp])
    · rcases List.mem_cons.1 hp with rfl | hp
      · exact h _ (by simp)
      · exact ih (fun p hp => h p (by simp [hp])) p hp
theorem mapG_kv {es : Array MapEntry} {l : List ((Int × Int) × GV)} (hl : es.toList.map kv = l.map (fun p => (k2 p.1, p.2.val))) : es.toList.map kv = (l.map fun p => (p.1, p.2.val)).map (fun p => (k2 p.1, p.2)) := by
  rw [hl, List.map_map]; rfl
theorem isS_agg {g : GV} (h : g.isS = false) : g.val = .agg g.flat.toArray := by
  cases g <;> first | rfl | (cases h; done)
theorem map2G_spec {P : Program} {t : TypeId} {z : GV} (h : map2G P t = some z) : ∃ k e i, P.underlying t = some (.map k e) ∧ P.info? e = some i ∧ i.zero = some z.val ∧ z.ok := by
  unfold map2G at h
  split at h <;> first | (cases h; done) | skip
  rename_i k e hm
  split at h <;> first | (cases h; done) | skip
  rename_i z' xs hz' hx
  split at h <;> first | (cases h; done) | skip
  rename_i hc
  simp only [Bool.and_eq_true, Bool.not_eq_true'] at hc
  obtain ⟨⟨c1, c2⟩, c3⟩ := hc
  simp only [Option.some.injEq] at h
  subst h
  obtain ⟨i, hi, hz⟩ := Option.bind_eq_some_iff.mp hx
  refine ⟨k, e, i, hm, hi, ?_, okB_ok c2⟩
  rw [hz, isS_agg c1, scEqL_eq c3]
theorem rd_mlkG {t : TypeId} {x i : Operand} {x' i' : Opd} {ok : Bool} {z : GV} {z0 : Option Value} (ho : o.op = .lookup t x i ok) (hT : map2T C.P t = some z0) (hG : map2G C.P t = some z) (hx : cOpd x = some x') (hi : cOpd i = some i') (hF : FR loc C.N σ.fr σ.pv σ.ph a)
    {b : Nat} {k : Int × Int} (e1 : ev σ x' = some (.g (.s (.map (some b))))) (e2 : ev σ i' = some (.g (gk2 k))) {ob : Obj} {l : List ((Int × Int) × GV)} (hs : SeenO C σ.ph σ.m b ob) (hI : MapG ob l) :
    Reads C loc σ o a (lkSG l k z ok) := by
  have h1 := (hF.ev rfl e1).s
  obtain ⟨_, h2⟩ := hF.ev rfl e2
  have h2 : evO a i' = k2 k := h2
  obtain ⟨kt, et, fs, f0, f1, hm, hk2, _⟩ := map2T_spec hT
  obtain ⟨kt', et', inf, hm', hinf, hz2, hzok⟩ := map2G_spec hG
  obtain ⟨rfl, rfl⟩ : kt = kt' ∧ et = et' := by rw [hm] at hm'; simpa using hm'
  obtain ⟨es, cl, rfl, hl, hst, hks⟩ := hI
  have hvo : ((mgetG l k).getD z).ok := by
    cases hg : mgetG l k with
    | none => exact hzok
    | some v => exact mgetG_ok hks hg
  have hrun : ∀ w, HR C loc σ.pv σ.ph σ.m w → (Instr.lookup t (.map (some b)) (k2 k) ok).run C.P w = .ok (if ok then .tuple #[((mgetG l k).getD z).val, .bool (mgetG l k).isSome] else ((mgetG l k).getD z).val) w := by
    intro w hw
    have hb := hw.seenO hs
    have hzr : ∀ w, (zeroValue et).run C.P w = .ok z.val w := fun w => by simp [zeroValue, Sem.run_bind, run_typeInfo hinf, hz2]
    have hck : ∀ e, (Instr.checkKey e 10000 kt (k2 k)).run C.P w = .ok () w := fun e => run_check2 hk2 k e 9998 w
    rcases find2 hk2 k w es.toList _ (mapG_kv hl) with ⟨g1, _, g3, _⟩ | ⟨j, e, g1, _, _, g4, _⟩
    · rw [mget2_G] at g3
      have g3 : mgetG l k = none := by simpa using g3
      cases ok <;> simp [Instr.lookup, Sem.run_bind, run_underlying' hm, MapKept.run_getObj_map hb, hck, g1, hzr, g3]
    · rw [mget2_G, Option.map_eq_some_iff] at g4
      obtain ⟨v, g4, hev⟩ := g4
      cases ok <;> simp [Instr.lookup, Sem.run_bind, run_underlying' hm, MapKept.run_getObj_map hb, hck, g1, hzr, g4, hev]
  refine rd_valL (isPure_lookup' ho) (s := Instr.lookup t (.map (some b)) (k2 k) ok) (v := if ok then .tuple #[((mgetG l k).getD z).val, .bool (mgetG l k).isSome] else ((mgetG l k).getD z).val) ?_ (by simp only [execOp, ho, cOpd_eval hx a, cOpd_eval hi a, h1, h2]) fun w hw => hrun w hw
  cases ok with
  | true => exact ⟨fun y hy => by simp at hy; rcases hy with rfl | rfl; exact hvo; rfl, by simp [GV.val]⟩
  | false => exact ⟨hvo, rfl⟩
theorem wp_mupG {t : TypeId} {x i v : Operand} {x' i' v' : Opd} {z : Option Value} (ho : o.op = .mapUpdate t x i v ∨ o.op = .insert t x i v) (hT : map2T C.P t = some z) (hx : cOpd x = some x') (hi : cOpd i = some i') (hv : cOpd v = some v') (hd : ∀ t, o.dst = some t → t < C.N)
    (hF : FR loc C.N σ.fr σ.pv σ.ph a) (hH : HR C loc σ.pv σ.ph σ.m w) {b : Nat} {g y : GV} (e1 : ev σ x' = some (.g (.s (.map (some b))))) (e2 : ev σ i' = some (.g g)) (e3 : ev σ v' = some (.g y)) (h : mupGK b g y o.dst K σ) : o.wp C.P a w (liftK C K) Q := by
  obtain ⟨kt, et, fs, f0, f1, hm, hk2, _⟩ := map2T_spec hT
  obtain ⟨k, ob, l, rfl, hmb, ⟨es, cl, rfl, hl, hst, hks⟩, hK⟩ := h
  have h1 := (hF.ev rfl e1).s
  obtain ⟨_, h2⟩ := hF.ev rfl e2
  have h2 : evO a i' = k2 k := h2
  obtain ⟨hyo, h3⟩ := hF.ev rfl e3
  have hb := hH.mle b _ hmb
  have hck : ∀ e, (Instr.checkKey e 10000 kt (k2 k)).run C.P w = .ok () w := fun e => run_check2 hk2 k e 9998 w
  have hex : (execOp a.eval o) = (do Instr.mapUpdate t (.map (some b)) (k2 k) y.val; pure .skip : Sem Next) := by
    rcases ho with ho | ho <;> simp only [execOp, ho, cOpd_eval hx a, cOpd_eval hi a, cOpd_eval hv a, h1, h2, h3]
  rcases find2 hk2 k w es.toList _ (mapG_kv hl) with ⟨g1, g2, _, g4⟩ | ⟨j, e, g1, g2, g3, _, g5⟩
  · refine wp_mem (ob' := .map (es.push { key := k2 k, val := y.val, born := cl }) (cl + 1)) (x := .no) (v := undef) (w1 := w) hd (.inr ⟨?_, rfl⟩) hH hF hmb rfl (hK _ ⟨_, _, rfl, ?_, MapKept.stamped_push hst g2, mputG_ok hks k hyo⟩)
    · rw [hex]
      simp [Instr.mapUpdate, Sem.run_bind, run_underlying' hm, MapKept.run_getObj_map hb, hck, g1, MapKept.run_setObj_map _ hb, World.setBlk]
    · have g4 := g4 y.val
      rw [mput2_G] at g4
      have e5 := congrArg (List.map fun p : (Int × Int) × Value => (k2 p.1, p.2)) g4
      rw [List.map_map, List.map_append, ← mapG_kv hl] at e5
      show _ = (mputG l k y).map ((fun p : (Int × Int) × Value => (k2 p.1, p.2)) ∘ fun p => (p.1, p.2.val))
      rw [e5]
      simp [kv]
  · have hj : es[j]? = some e := by rw [← Array.getElem?_toList]; exact g2
    refine wp_mem (ob' := .map (es.modify j fun e => { e with key := k2 k, val := y.val }) cl) (x := .no) (v := undef) (w1 := w) hd (.inr ⟨?_, rfl⟩) hH hF hmb rfl (hK _ ⟨_, _, rfl, ?_, stamped_set hst g2 g3, mputG_ok hks k hyo⟩)
    · rw [hex]
      have hst' : (Instr.keyThatStays (k2 k) (k2 k)).run C.P w = .ok (k2 k) w := by
        have : Instr.sameBits 10000 (k2 k) (k2 k) = true := by simp [Instr.sameBits, k2]
        simp [Instr.keyThatStays, this]
      simp [Instr.mapUpdate, Sem.run_bind, run_underlying' hm, MapKept.run_getObj_map hb, hck, g1, MapKept.run_setObj_map _ hb, World.setBlk, hj, g3, hst']
    · have g5 := g5 y.val
      rw [mput2_G] at g5
      have e5 := congrArg (List.map fun p : (Int × Int) × Value => (k2 p.1, p.2)) g5
      rw [List.map_map] at e5
      show _ = (mputG l k y).map ((fun p : (Int × Int) × Value => (k2 p.1, p.2)) ∘ fun p => (p.1, p.2.val))
      rw [e5]
      exact set_same2 (mapG_kv hl) g2 _ (by simp [kv])
theorem rd_mlnG {c : Call} {x : Operand} {y : Opd} {t : TypeId} {z : Option Value} (ho : o.op = .call c) (hc : c.callee = .builtin .len) (ha : c.args.toList = [x]) (ht : c.argTypes[0]? = some t) (hT : map2T C.P t = some z)
    (hx : cOpd x = some y) (hF : FR loc C.N σ.fr σ.pv σ.ph a) {b : Nat} (e1 : ev σ y = some (.g (.s (.map (some b))))) {ob : Obj} {l : List ((Int × Int) × GV)} (hs : SeenO C σ.ph σ.m b ob) (hI : MapG ob l) : Reads C loc σ o a (.g (.s (.int .i64 l.length))) := by
  obtain ⟨kt, et, fs, f0, f1, hm, hk2, _⟩ := map2T_spec hT
  have h1 := (hF.ev rfl e1).s
  refine rd_valL (isPure_lenM ho hc ha ht hm) (s := Builtin.len_ c.argTypes o.type (c.args.map a.eval)) (v := .int .i64 l.length) ⟨rfl, rfl⟩ (by rw [exec_builtin ho hc]; rfl) fun w hw => ?_
  obtain ⟨es, cl, rfl, hl, hst, hks⟩ := hI
  have hb := hw.seenO hs
  have hlen : es.size = l.length := by have := congrArg List.length hl; simpa using this
  rw [args_one ha]
  simp [Builtin.len_, ht, Sem.run_bind, run_underlying' hm, cOpd_eval hx a, h1, goInt, MapKept.run_getObj_map hb, hlen]
end
end Go.Proofs.YtmjiojflncffeaaGreat.Vc

/- Soundness: operations, regions, code. -/
set_option linter.unusedVariables false
set_option linter.unusedSimpArgs false
namespace Go.Proofs.YtmjiojflncffeaaGreat.Vc
open Go

section
variable {C : Ctx} {loc : Loc} {σ : SS} {a : Act} {o : Oper} {w : World} {K : KT} {Q : Exit → Act → World → Prop}

theorem mapM_eval : ∀ {l : List Operand} {l' : List Opd}, l.mapM cOpd = some l' → ∀ a : Act, l.map a.eval = l'.map (evO a)
  | [], l', h, a => by simp at h; subst h; rfl
  | x :: l, l', h, a => by
    simp only [List.mapM_cons, Option.bind_eq_bind, Option.bind_eq_some_iff, Option.pure_def, Option.some.injEq] at h
    obtain ⟨y, hy, l2, hl2, rfl⟩ := h
    simp [cOpd_eval hy a, mapM_eval hl2 a]

theorem call_run {f : Nat} {args : List Opd} {c : Call} {fn : Func} (ho : o.op = .call c) (hc : c.callee = .value (.func f)) (hf : C.P.funcs[f]? = some fn) (hfn : (fn.body.isSome && fn.name != "runtime.NumGoroutine") = true)
    (ha : c.args.toList.mapM cOpd = some args) : (execOp a.eval o).run C.P w = .ok (.enter f (args.map (evO a)).toArray) w := by
  have hargs : c.args.map a.eval = (args.map (evO a)).toArray := by
    rw [← mapM_eval ha a]
    apply Array.toList_inj.mp
    simp
  obtain ⟨dst, op, type, pos, after, guard⟩ := o
  obtain ⟨callee, cargs, argTypes⟩ := c
  simp only at ho hc hargs
  subst ho; subst hc
  simp at hfn
  obtain ⟨b, hb⟩ := Option.isSome_iff_exists.mp hfn.1
  simp [execOp, resolve, Deferred.ofValue, Act.eval, invoke, callFunc, Sem.run_bind, hf, hfn.2, hb, hargs]

theorem wp_call {f : Nat} {args : List Opd} {c : Call} {fn : Func} (ho : o.op = .call c) (hc : c.callee = .value (.func f)) (hf : C.P.funcs[f]? = some fn) (hfn : (fn.body.isSome && fn.name != "runtime.NumGoroutine") = true)
    (ha : c.args.toList.mapM cOpd = some args) (hR : Rel C σ a w) (h : vcCall C f args o.dst K σ) : o.wp C.P a w (liftK C K) Q := by
  unfold Oper.wp
  rw [call_run ho hc hf hfn ha, Oper.upon_enter]
  refine (h.h a w hR).mono fun e w' he => ?_
  obtain ⟨v, rfl, hK⟩ := he
  exact hK

theorem wp_callV {f v : Nat} {args : List Opd} {c : Call} {fn : Func} {p q : Array Value} (ho : o.op = .call c) (hc : c.callee = .value (.tmp v)) (hf : C.P.funcs[f]? = some fn) (hfn : (fn.body.isSome && fn.name != "runtime.NumGoroutine") = true)
    (ha : c.args.toList.mapM cOpd = some args) (hv : a.tmps.getD v undef = .func (.func f) p q) (hR : Rel C σ a w) (h : vcCall C f (p.toList.map Opd.c ++ args ++ q.toList.map Opd.c) o.dst K σ) : o.wp C.P a w (liftK C K) Q := by
  have hargs : c.args.map a.eval = (args.map (evO a)).toArray := by
    rw [← mapM_eval ha a]
    apply Array.toList_inj.mp
    simp
  have hcs : ∀ l : List Value, (l.map Opd.c).map (evO a) = l := fun l => by
    induction l with
    | nil => rfl
    | cons x l ih => simp only [List.map_cons, ih]; rfl
  have hrun : (execOp a.eval o).run C.P w = .ok (.enter f ((p.toList.map Opd.c ++ args ++ q.toList.map Opd.c).map (evO a)).toArray) w := by
    obtain ⟨dst, op, type, pos, after, guard⟩ := o
    obtain ⟨callee, cargs, argTypes⟩ := c
    simp only at ho hc hargs
    subst ho; subst hc
    simp at hfn
    obtain ⟨b, hb⟩ := Option.isSome_iff_exists.mp hfn.1
    have hv' : a.tmps[v]?.getD undef = .func (.func f) p q := by simpa using hv
    have hl : ((p.toList.map Opd.c ++ args ++ q.toList.map Opd.c).map (evO a)).toArray = p ++ (args.map (evO a)).toArray ++ q := by
      apply Array.toList_inj.mp
      simp [hcs]
    rw [hl]
    simp [execOp, resolve, Deferred.ofValue, Act.eval, hv', invoke, callFunc, Sem.run_bind, hf, hfn.2, hb, hargs]
  unfold Oper.wp
  rw [hrun, Oper.upon_enter]
  refine (h.h a w hR).mono fun e w' he => ?_
  obtain ⟨v, rfl, hK⟩ := he
  exact hK

theorem vcOp_split (hd : ∀ t, o.dst = some t → t < C.N) (h : vcOp C o.dst K σ (cOp C.P o)) (hF : FR loc C.N σ.fr σ.pv σ.ph a) (hH : HR C loc σ.pv σ.ph σ.m w) :
    (∃ x, Reads C loc σ o a x ∧ K (σ.put o.dst x)) ∨ (isRd (cOp C.P o) = false ∧ ∀ Q, o.wp C.P a w (liftK C K) Q) := by
  have hW : ∃ w, HR C loc σ.pv σ.ph σ.m w := ⟨w, hH⟩
  unfold cOp at h
  cases hc : cOp? C.P o with
  | none =>
    rw [hc] at h
    rw [show cOp C.P o = .bot by unfold cOp; rw [hc]; rfl]
    exact (show False from h).elim
  | some ro =>
    rw [hc] at h
    simp only [Option.getD_some] at h
    have fin : ∀ x, Reads C loc σ o a x → K (σ.put o.dst x) → (∃ x, Reads C loc σ o a x ∧ K (σ.put o.dst x)) ∨ (isRd ((some ro : Option RO).getD .bot) = false ∧ ∀ Q, o.wp C.P a w (liftK C K) Q) := fun x hx hk => .inl ⟨x, hx, hk⟩
    rw [show cOp C.P o = (some ro : Option RO).getD .bot by unfold cOp; rw [hc]]
    unfold cOp? at hc
    split at hc
    case h_1 x ho =>
      simp only [Option.map_eq_some_iff] at hc
      obtain ⟨y, hy, rfl⟩ := hc
      simp only [vcOp] at h
      split at h
      · rename_i v hv; exact fin v (rd_mv (.inl ho) hy hF hv) h
      · exact h.elim
    case h_2 x ho =>
      simp only [Option.map_eq_some_iff] at hc
      obtain ⟨y, hy, rfl⟩ := hc
      simp only [vcOp] at h
      split at h
      · rename_i v hv; exact fin v (rd_mv (.inr ho) hy hF hv) h
      · exact h.elim
    case h_3 c x y ho =>
      split at hc <;> first | (cases hc; done) | skip
      rename_i c' x' y' hc1 hx1 hy1
      simp only [Option.some.injEq] at hc
      subst hc
      simp only [vcOp, brB] at h
      split at h
      · rename_i t v1 v2 ht hv1 hv2
        cases t with
        | true => exact fin v1 (rd_pick ho hc1 hx1 hy1 hF ht (by simpa using hv1)) (h.1 rfl)
        | false => exact fin v2 (rd_pick ho hc1 hx1 hy1 hF ht (by simpa using hv2)) (h.2 rfl)
      · exact h.elim
    case h_4 e x ho =>
      simp only [Option.map_eq_some_iff] at hc
      obtain ⟨y, hy, rfl⟩ := hc
      simp only [vcOp] at h
      split at h
      · rename_i k g hdst hv
        obtain ⟨hg, he⟩ := hF.ev rfl hv
        refine .inr ⟨rfl, fun Q => wp_newbox (e := e) hdst hd ?_ hg hF hH h.1 h.2⟩
        simp [execOp, ho, cOpd_eval hy a, he, Instr.box, newVar, newRow, Sem.run_bind, GV.cells_val g hg]
      · exact h.elim
    case h_5 e ho =>
      split at hc <;> first | (cases hc; done) | skip
      rename_i z v hz hv
      split at hc <;> first | (cases hc; done) | skip
      rename_i hok
      simp only [Option.some.injEq] at hc
      subst hc
      simp only [Bool.and_eq_true] at hok
      simp only [vcOp] at h
      split at h
      · rename_i k hdst
        obtain ⟨i, hi, hiz⟩ := Option.bind_eq_some_iff.mp hv
        have hcells : v.cells = (GV.flat z).toArray := by rw [scEqL_eq hok.2]
        refine .inr ⟨rfl, fun Q => wp_newbox (e := e) hdst hd ?_ (okB_ok hok.1) hF hH h.1 h.2⟩
        simp [execOp, ho, Instr.alloc, zeroValue, typeInfo, hi, hiz, newVar, newRow, Sem.run_bind, hcells]
      · exact h.elim
    case h_6 s x f ho =>
      split at hc <;> first | (cases hc; done) | skip
      rename_i fs x' hs hx
      split at hc <;> first | (cases hc; done) | skip
      rename_i fd hf
      split at hc <;> first | (cases hc; done) | skip
      rename_i i hi
      split at hc <;> first | (cases hc; done) | skip
      rename_i hz
      simp only [Option.some.injEq] at hc
      subst hc
      simp only [vcOp] at h
      split at h
      · rename_i k p hv
        split at h
        · rename_i g hg; exact fin _ (rd_fldA ho hs hf hi hz hx hF hv hg h.1) h.2
        · exact h.elim
      · rename_i k j p hv
        exact fin _ (rd_fldA' ho hs hf hi hz hx hF hv h.1) h.2
      · rename_i b q hv
        exact fin _ (rd_fldP ho hs hf hi hz hx hF hv) h
      · exact h.elim
    case h_7 t x i ho =>
      split at hc <;> first | (cases hc; done) | skip
      · rename_i n e x' i' ht hx hi
        simp only [Option.map_eq_some_iff] at hc
        obtain ⟨z, hz, rfl⟩ := hc
        simp only [vcOp] at h
        split at h
        · rename_i k p kd j hv hj
          split at h
          · rename_i g hg; exact fin _ (rd_idxA ho ht hz hx hi hF hv hj hg h.1 h.2.1) h.2.2
          · exact h.elim
        · rename_i k l p kd j hv hj
          exact fin _ (rd_idxA' ho ht hz hx hi hF hv hj h.1 h.2.1) h.2.2
        · rename_i b q kd j hv hj
          exact fin _ (rd_idxP ho ht hz hx hi hF hv hj h.1) h.2
        · exact h.elim
      · rename_i e x' i' ht hx hi
        simp only [Option.map_eq_some_iff] at hc
        obtain ⟨z, hz, rfl⟩ := hc
        simp only [vcOp] at h
        split at h
        · rename_i k s n kd j hv hj
          split at h
          · rename_i zz xs hg
            obtain ⟨rfl, h2, h3⟩ := h
            exact fin _ (rd_idxS ho ht hz hx hi hF hW hv hj hg h2) h3
          · exact h.elim
        · rename_i b q n c kd j hv hj
          exact fin _ (rd_idxSP ho ht hz hx hi hF hv hj h.1) h.2
        · exact h.elim
    case h_8 t x ho =>
      split at hc <;> first | (cases hc; done) | skip
      rename_i d i x' ht hi hx
      simp only [Option.some.injEq] at hc
      subst hc
      simp only [vcOp] at h
      split at h
      · rename_i k p hv
        split at h
        · rename_i g hg
          exact fin _ (rd_ld ho ht hi hx hF hv hg h.1 hW) h.2
        · exact h.elim
      · rename_i k l p hv
        exact fin _ (rd_ld' ho ht hi hx hF hv h.1 hW) h.2
      · rename_i b q hv
        obtain ⟨y, h1, h2, h3⟩ := h
        exact fin _ (rd_ldP ho ht hi hx hF hv h1 h2) h3
      · exact h.elim
    case h_9 t x v ho =>
      split at hc <;> first | (cases hc; done) | skip
      rename_i i x' v' hi hx hv
      simp only [Option.some.injEq] at hc
      subst hc
      simp only [vcOp] at h
      split at h
      · rename_i k p y e1 e2
        split at h
        · rename_i g hg
          exact .inr ⟨rfl, fun Q => wp_st_box ho hi hx hv hd hF hH e1 e2 hg h.1.1 h.1.2 h.2⟩
        · exact h.elim
      · rename_i k l p y e1 e2
        split at h
        · rename_i e z df xs hg
          exact .inr ⟨rfl, fun Q => wp_st_row ho hi hx hv hd hF hH e1 e2 hg h.1.1 h.1.2 h.2⟩
        · exact h.elim
      · rename_i b q y e1 e2
        obtain ⟨h1, cs, e, ⟨h2, h3⟩, h4⟩ := h
        exact .inr ⟨rfl, fun Q => wp_st_mem ho hi hx hv hd hF hH e1 e2 h2 h1 (by rw [← h1]; omega) h4⟩
      · exact h.elim
    case h_10 op t x y u ho =>
      have eqs : ∀ neg, (op = .eql ∧ neg = false ∨ op = .neq ∧ neg = true) → ∀ x' y', cOpd x = some x' → cOpd y = some y' → ro = .eqA neg t x' y' → (∃ x, Reads C loc σ o a x ∧ K (σ.put o.dst x)) ∨ (isRd ((some ro : Option RO).getD .bot) = false ∧ ∀ Q, o.wp C.P a w (liftK C K) Q) := by
        intro neg hop x' y' hx hy hro
        subst hro
        simp only [vcOp] at h
        split at h
        · rename_i p q e1 e2
          obtain ⟨r, h1, h2⟩ := h
          exact fin _ (rd_eqA ho hop hx hy hF e1 e2 h1) h2
        · rename_i k p e1 e2
          obtain ⟨⟨e, ht⟩, h2⟩ := h
          obtain ⟨_, b, c, _, _, _, _, hp⟩ := hF.ev rfl e1
          exact fin _ (rd_eqNilP ho hop hx hy hF ht hp e2) h2
        · rename_i k i p e1 e2
          obtain ⟨⟨e, ht⟩, h2⟩ := h
          obtain ⟨_, _, _, _, b, o', c, _, _, _, _, hp⟩ := hF.ev rfl e1
          exact fin _ (rd_eqNilP ho hop hx hy hF ht hp e2) h2
        · rename_i k s n e1 e2
          obtain ⟨⟨e, ht⟩, h2⟩ := h
          obtain ⟨z, xs, g1, g2, g3⟩ := hF.ev rfl e1
          have hrow := (hH.row g1).2
          cases hl : loc k with
          | none =>
            rw [hl] at g3 hrow
            simp only at hrow
            subst hrow
            obtain ⟨ad, g3⟩ := g3
            exact fin _ (rd_eqNilS ho hop hx hy hF ht g3 e2) (h2 ad.isNone fun hn => by simp at g2; omega)
          | some L =>
            obtain ⟨b, f, c⟩ := L
            rw [hl] at g3
            obtain ⟨ad, g3, _⟩ := g3
            exact fin _ (rd_eqNilS ho hop hx hy hF ht g3 e2) (h2 false fun _ => rfl)
        · exact h.elim
      have bins : ∀ x' y', cOpd x = some x' → cOpd y = some y' → ro = .bin op x' y' → (∃ x, Reads C loc σ o a x ∧ K (σ.put o.dst x)) ∨ (isRd ((some ro : Option RO).getD .bot) = false ∧ ∀ Q, o.wp C.P a w (liftK C K) Q) := by
        intro x' y' hx hy hro
        subst hro
        simp only [vcOp] at h
        split at h
        · rename_i p q e1 e2
          split at h
          · rename_i v h1; exact fin _ (rd_bin ho hx hy hF e1 e2 h1 h.1) h.2
          · exact h.elim
        · exact h.elim
      split at hc
      · rename_i x' y' ht hx hy
        simp only [Option.some.injEq] at hc
        exact bins _ _ hx hy hc.symm
      · rename_i x' y' ht hx hy
        simp only [Option.some.injEq] at hc
        exact bins _ _ hx hy hc.symm
      · rename_i x' y' hx hy _ _ ht
        split at hc
        · simp only [Option.some.injEq] at hc
          exact eqs false (.inl ⟨rfl, rfl⟩) _ _ (by assumption) (by assumption) hc.symm
        · simp only [Option.some.injEq] at hc
          exact eqs true (.inr ⟨rfl, rfl⟩) _ _ (by assumption) (by assumption) hc.symm
        · cases hc
      · cases hc
    case h_11 op t x ho =>
      simp only [Option.map_eq_some_iff] at hc
      obtain ⟨y, hy, rfl⟩ := hc
      simp only [vcOp] at h
      split at h
      · rename_i p e1
        split at h
        · rename_i v h1; exact fin _ (rd_un ho hy hF e1 h1) h
        · exact h.elim
      · exact h.elim
    case h_12 t x f ho =>
      split at hc <;> first | (cases hc; done) | skip
      rename_i fs x' hs hx
      split at hc <;> first | (cases hc; done) | skip
      rename_i fd hf
      split at hc <;> first | (cases hc; done) | skip
      rename_i dd i hdd hi
      simp only [Option.some.injEq] at hc
      subst hc
      simp only [vcOp] at h
      split at h
      · rename_i g hv; exact fin _ (rd_fldV ho hs hf hdd hi hx hF hv h.1 h.2.1) h.2.2
      · exact h.elim
    case h_13 t x i ho =>
      split at hc <;> first | (cases hc; done) | skip
      · rename_i n e x' i' ht hx hi
        split at hc <;> first | (cases hc; done) | skip
        rename_i dd z hdd hz
        simp only [Option.some.injEq] at hc
        subst hc
        simp only [vcOp] at h
        split at h
        · rename_i g kd j hv hj; exact fin _ (rd_idxV ho ht hdd hz hx hi hF hv hj h.1 h.2.1 h.2.2.1) h.2.2.2
        · exact h.elim
      · rename_i x' i' ht hx hi
        simp only [Option.some.injEq] at hc
        subst hc
        simp only [vcOp] at h
        split at h
        · rename_i s kd j hv hj; exact fin _ (rd_strI ho ht hx hi hF hv hj h.1) h.2
        · exact h.elim
    case h_14 t x lo hi mx ho =>
      split at hc <;> first | (cases hc; done) | skip
      · rename_i x' lo' hi' ht hx hlo hhi
        simp only [Option.some.injEq] at hc
        subst hc
        simp only [vcOp] at h
        split at h
        · rename_i s hv
          split at h
          · rename_i l hh hl1 hh1; exact fin _ (rd_slS ho ht hx hlo hhi hF hv hl1 hh1 h.1) h.2
          · exact h.elim
        · exact h.elim
      · rename_i e x' lo' hi' ht hx hlo hhi
        simp only [Option.map_eq_some_iff] at hc
        obtain ⟨z, hz, rfl⟩ := hc
        simp only [vcOp] at h
        split at h
        · rename_i k s n hv
          split at h
          · rename_i l hh z' xs hl1 hh1 hg
            obtain ⟨⟨rfl, h1⟩, h2⟩ := h
            exact fin _ (rd_sl ho ht hz hx hlo hhi hF hW hv hl1 hh1 h1 (fun z2 xs2 e2 => by rw [hg] at e2; simp at e2; exact e2.1.symm)) h2
          · exact h.elim
        · rename_i hv
          split at h
          · rename_i l hh hl1 hh1
            obtain ⟨⟨rfl, rfl⟩, h2⟩ := h
            exact fin _ (rd_slNil ho ht hz hx hlo hhi hF hv hl1 hh1) h2
          · exact h.elim
        · rename_i b q n c hv
          split at h
          · rename_i l hh hl1 hh1
            exact fin _ (rd_slP ho ht hz hx hlo hhi hF hv hl1 hh1 h.1) h.2
          · exact h.elim
        · rename_i b q sp hv
          split at h
          · rename_i l hh hl1 hh1
            obtain ⟨⟨rfl, rfl⟩, h2⟩ := h
            exact fin _ (rd_slSp ho ht hz hx hlo hhi hF hv hl1 hh1) h2
          · exact h.elim
        · exact h.elim
    case h_15 s t x ho =>
      split at hc <;> first | (cases hc; done) | skip
      rename_i ks k x' hs ht hx
      simp only [Option.some.injEq] at hc
      subst hc
      simp only [vcOp] at h
      split at h
      · rename_i kd j hv; exact fin _ (rd_cvI ho hs ht hx hF hv) h
      · exact h.elim
      rename_i e x' hs ht hx
      split at hc <;> first | (cases hc; done) | skip
      rename_i he
      simp only [Option.some.injEq] at hc
      subst hc
      simp only [vcOp] at h
      split at h
      · rename_i y hv
        obtain ⟨bs, h1, h2⟩ := h
        exact fin _ (rd_b2s ho hs ht he hx hF hv h1) h2
      · exact h.elim
      rename_i e x' hs ht hx
      split at hc <;> first | (cases hc; done) | skip
      rename_i he
      simp only [Option.some.injEq] at hc
      subst hc
      simp only [vcOp] at h
      split at h
      · rename_i k b hdst e1
        exact .inr ⟨rfl, fun Q => wp_s2b ho hs ht he hx hd hF hH hdst e1 h.1 h.2⟩
      · exact h.elim
    case h_16 x ho =>
      simp only [Option.map_eq_some_iff] at hc
      obtain ⟨y, hy, rfl⟩ := hc
      simp only [vcOp] at h
      split at h
      · rename_i k p hv; exact fin _ (rd_nilc ho hy hF hv (.inl ⟨k, p, rfl⟩)) h
      · rename_i k i p hv; exact fin _ (rd_nilc ho hy hF hv (.inr (.inl ⟨k, i, p, rfl⟩))) h
      · rename_i ad hv; exact fin _ (rd_nilc ho hy hF hv (.inr (.inr (.inl ⟨ad, rfl⟩)))) h
      · rename_i f p q hv; exact fin _ (rd_nilc ho hy hF hv (.inr (.inr (.inr ⟨f, p, q, rfl⟩)))) h
      · exact h.elim
    case h_17 fn first caps ho =>
      split at hc <;> first | (cases hc; done) | skip
      rename_i f hfst
      have hfst' : first = #[] := by simpa using hfst
      subst hfst'
      simp only [Option.map_eq_some_iff] at hc
      obtain ⟨l, hl, rfl⟩ := hc
      simp only [vcOp] at h
      split at h
      · rename_i xs e1
        split at h
        · rename_i vs e2
          have hm : caps.map a.eval = (l.map (evO a)).toArray := by
            rw [← mapM_eval hl a]
            apply Array.toList_inj.mp
            simp
          exact fin _ (rd_mkf ho hl hF hm e1 e2) h
        · exact h.elim
      · exact h.elim
    case h_18 t parts ho =>
      split at hc <;> first | (cases hc; done) | skip
      rename_i z zv l hz hzv hl
      split at hc <;> first | (cases hc; done) | skip
      rename_i hok
      simp only [Option.some.injEq] at hc
      subst hc
      simp only [Bool.and_eq_true, Bool.not_eq_true'] at hok
      obtain ⟨⟨⟨ho1, ho2⟩, ho3⟩, ho4⟩ := hok
      simp only [vcOp] at h
      split at h
      · rename_i xs e1
        split at h
        · rename_i gs e2
          obtain ⟨i, hi, hiz⟩ := Option.bind_eq_some_iff.mp hzv
          have hns : ∀ v, z ≠ .s v := fun v e => by subst e; simp [GV.isS] at ho1
          have hzf := scEqL_eq ho3
          unfold bldOk at ho4
          split at ho4
          · rename_i fs hu
            split at ho4
            · rename_i places hp
              simp only [List.all_eq_true, Bool.and_eq_true, beq_iff_eq] at ho4
              exact fin _ (rd_bld (place := (places.toArray[·]?)) ho (okB_ok ho2) hzf hns (fun l' => by simp only [Program.built, hi, hu, hiz, hp]) (fun i hi => ho4 i hi) hl hF e1 e2 h.1) h.2
            · cases ho4
          · rename_i n e hu
            split at ho4
            · rename_i ie hie
              simp only [List.all_eq_true, Bool.and_eq_true, beq_iff_eq] at ho4
              exact fin _ (rd_bld (place := fun i => some (i * ie.size, ie.size)) ho (okB_ok ho2) hzf hns (fun l' => by simp only [Program.built, hi, hu, hiz, hie]) (fun i hi => ⟨(ho4 i hi).1, congrArg some (ho4 i hi).2⟩) hl hF e1 e2 h.1) h.2
            · cases ho4
          · cases ho4
        · exact h.elim
      · exact h.elim
    case h_19 t n parts ho =>
      split at hc <;> first | (cases hc; done) | skip
      rename_i e l ht hl
      split at hc <;> first | (cases hc; done) | skip
      rename_i i df hi hdf
      split at hc <;> first | (cases hc; done) | skip
      rename_i hok
      simp only [Option.some.injEq] at hc
      subst hc
      simp only [Bool.and_eq_true, beq_iff_eq, decide_eq_true_eq] at hok
      obtain ⟨⟨⟨hn, hz1⟩, hsm⟩, hidx⟩ := hok
      obtain ⟨zv, hzv⟩ := Option.isSome_iff_exists.mp hz1
      subst hn
      simp only [vcOp] at h
      split at h
      · rename_i k xs hdst e1
        split at h
        · rename_i gs e2
          refine .inr ⟨rfl, fun Q => wp_bldS (l := l) ho ht hi hzv hsm ?_ hdst hd hF hH e1 e2 h.1.1 h.1.2 h.2⟩
          have hlen : l.length = parts.size := by
            have key : ∀ (q : List (Nat × Operand)) (r : List Opd), (q.mapM fun x => cOpd x.2) = some r → r.length = q.length := by
              intro q
              induction q with
              | nil => intro r hr; simp at hr; subst hr; rfl
              | cons x q ih =>
                intro r hr
                simp only [List.mapM_cons, Option.bind_eq_bind, Option.bind_eq_some_iff, Option.pure_def, Option.some.injEq] at hr
                obtain ⟨y, _, r2, hr2, rfl⟩ := hr
                simp [ih r2 hr2]
            have := key _ _ hl
            simpa using this
          rw [hlen, ← hidx]
          have key : ∀ (q : List (Nat × Operand)) (r : List Opd), (q.mapM fun x => cOpd x.2) = some r → q.mapM (fun x => (cOpd x.2).map fun y => (x.1, y)) = some ((q.map (·.1)).zip r) := by
            intro q
            induction q with
            | nil => intro r hr; simp at hr; subst hr; rfl
            | cons x q ih =>
              intro r hr
              simp only [List.mapM_cons, Option.bind_eq_bind, Option.bind_eq_some_iff, Option.pure_def, Option.some.injEq] at hr
              obtain ⟨y, hy, r2, hr2, rfl⟩ := hr
              simp [List.mapM_cons, hy, ih r2 hr2]
          exact key _ _ hl
        · exact h.elim
      · exact h.elim
    case h_20 x i ho =>
      simp only [Option.map_eq_some_iff] at hc
      obtain ⟨y, hy, rfl⟩ := hc
      simp only [vcOp] at h
      split at h
      · rename_i xs e1
        split at h
        · rename_i v h1; exact fin _ (rd_ext ho hy hF e1 h1) h
        · exact h.elim
      · exact h.elim
    case h_21 c ho =>
      split at hc
      case h_1 v hcal =>
        simp only [Option.map_eq_some_iff] at hc
        obtain ⟨args, ha, rfl⟩ := hc
        simp only [vcOp] at h
        split at h
        · rename_i f p q e1
          obtain ⟨⟨fn, hfn, hb⟩, h2⟩ := h
          exact .inr ⟨rfl, fun Q => wp_callV ho hcal hfn hb ha (by have := (hF.ev rfl e1).s; simpa [evO] using this) ⟨loc, hF, hH⟩ h2⟩
        · exact h.elim
      case h_2 f hcal =>
        split at hc <;> first | (cases hc; done) | skip
        rename_i fn hfn
        split at hc <;> first | (cases hc; done) | skip
        rename_i hb
        simp only [Option.map_eq_some_iff] at hc
        obtain ⟨args, ha, rfl⟩ := hc
        simp only [vcOp] at h
        exact .inr ⟨rfl, fun Q => wp_call ho hcal hfn hb ha ⟨loc, hF, hH⟩ h⟩
      case h_3 hcal =>
        split at hc <;> first | (cases hc; done) | skip
        rename_i x t ha ht
        split at hc <;> first | (cases hc; done) | skip
        rotate_left 2
        · rename_i k e hu
          split at hc <;> first | (cases hc; done) | skip
          · rename_i kd z y hT hy
            simp only [Option.some.injEq] at hc
            subst hc
            simp only [vcOp] at h
            split at h
            · rename_i b e1
              obtain ⟨ob, l, h1, h2, h3⟩ := h
              exact fin _ (rd_mln ho hcal ha ht hT hy hF e1 h1 h2) h3
            · rename_i e1
              exact fin _ (rd_mln0 ho hcal ha ht hT hy hF e1) h
            · exact h.elim
          · rename_i y hT hy
            split at hc <;> first | (cases hc; done) | skip
            rename_i z hT2
            simp only [Option.some.injEq] at hc
            subst hc
            simp only [vcOp] at h
            split at h
            · rename_i b e1
              obtain ⟨ob, l, h1, h2, h3⟩ := h
              exact fin _ (rd_mlnG ho hcal ha ht hT2 hy hF e1 h1 h2) h3
            · exact h.elim
        all_goals
          simp only [Option.map_eq_some_iff] at hc
          obtain ⟨y, hy, rfl⟩ := hc
          simp only [vcOp] at h
        · rename_i e hu
          split at h
          · rename_i k s n e1
            obtain ⟨z, xs, h1, h2, h3⟩ := hF.ev rfl e1
            have h3' : ∃ b k c, evO a y = .slice b k c ∧ (n : Int) = k := by
              cases hl : loc k with
              | none =>
                have hrow := (hH.row h1).2
                rw [hl] at hrow h3
                simp only at hrow
                subst hrow
                simp at h2
                obtain ⟨rfl, rfl⟩ := h2
                obtain ⟨ad, h3⟩ := h3
                exact ⟨ad, 0, 0, h3, rfl⟩
              | some l =>
                obtain ⟨b, o', c⟩ := l
                rw [hl] at h3
                obtain ⟨ad, h3, _⟩ := h3
                exact ⟨_, n, _, h3, rfl⟩
            obtain ⟨b, k', c', h4, h5⟩ := h3'
            exact fin _ (rd_len ho hcal ha ht hu hy h4 (.inl ⟨e, b, k', c', rfl, rfl, h5⟩)) h
          · rename_i b n c' e1
            obtain ⟨h1, h2⟩ := hF.ev rfl e1
            exact fin _ (rd_len ho hcal ha ht hu hy h2 (.inl ⟨e, b, n, c', rfl, rfl, rfl⟩)) h
          · exact h.elim
        · rename_i hu
          split at h
          · rename_i b e1
            obtain ⟨h1, h2⟩ := hF.ev rfl e1
            exact fin _ (rd_len ho hcal ha ht hu hy h2 (.inr ⟨b, rfl, rfl, rfl⟩)) h
          · exact h.elim
      case h_4 hcal =>
        split at hc <;> first | (cases hc; done) | skip
        rename_i x y t t2 ha h0 h1
        split at hc <;> first | (cases hc; done) | skip
        rename_i e e2 x' y' ht ht2 hx hy
        split at hc <;> first | (cases hc; done) | skip
        rename_i i df hi hdf
        split at hc <;> first | (cases hc; done) | skip
        rename_i zv hzv
        split at hc <;> first | (cases hc; done) | skip
        rename_i hok
        simp only [Option.some.injEq] at hc
        subst hc
        simp only [Bool.and_eq_true, beq_iff_eq, bne_iff_ne, ne_eq] at hok
        have aok : AppOk C.P c.argTypes e i zv := ⟨⟨t, t2, _, h0, h1, ht, ht2, fun k => by simp⟩, hi, hzv, hok.1, hok.2⟩
        simp only [vcOp] at h
        split at h
        · rename_i k s n j s' n' e1 e2
          split at h
          · rename_i e' z' df' xs z2 ys hk hj
            obtain ⟨⟨g1, rfl, rfl, rfl, rfl, rfl⟩, g7, g8⟩ := h
            exact .inr ⟨rfl, fun Q => wp_app_row ho hcal ha hx hy aok hd hF hH e1 e2 g1 hk hj g7 g8⟩
          · exact h.elim
        · rename_i v j s' n' e1 e2
          split at h
          · rename_i z2 ys hj
            obtain ⟨rfl, h⟩ := h
            rcases h with ⟨rfl, k, hdst, g2, g3, g4⟩ | h
            · exact .inr ⟨rfl, fun Q => wp_app_nil ho hcal ha hx hy aok hd hF hH hdst e1 e2 g2 hj g3 g4⟩
            · exact .inr ⟨rfl, fun Q => wp_appK (df := df) ho hcal ha hx hy aok hd hF hH e1 e2 hj h⟩
          · exact h.elim
        · exact h.elim
        rename_i e kd x' y' ht ht2 hx hy
        split at hc <;> first | (cases hc; done) | skip
        rename_i i df hi hdf
        split at hc <;> first | (cases hc; done) | skip
        rename_i zv hzv
        split at hc <;> first | (cases hc; done) | skip
        rename_i hok
        simp only [Option.some.injEq] at hc
        subst hc
        simp only [Bool.and_eq_true, beq_iff_eq, bne_iff_ne, ne_eq] at hok
        obtain ⟨⟨⟨⟨⟨k1, k2⟩, k3⟩, k4⟩, k5⟩, k6⟩ := hok
        simp only [vcOp] at h
        split at h
        · rename_i kd' m e1 e2
          split at h
          · rename_i k hdst
            obtain ⟨⟨g1, g2⟩, g3, g4⟩ := h
            exact .inr ⟨rfl, fun Q => wp_appZ ho hcal ha hx hy h0 h1 ht ht2 hi hzv k5 k6 (okB_ok k1) (scEqL_eq k2) k3 hd hF hH hdst e1 e2 g1 g2 g3 g4⟩
          · exact h.elim
        · exact h.elim
      case h_5 hcal =>
        split at hc <;> first | (cases hc; done) | skip
        rename_i x y ha
        split at hc <;> first | (cases hc; done) | skip
        rename_i x' y' hx hy
        simp only [Option.some.injEq] at hc
        subst hc
        simp only [vcOp] at h
        split at h
        · rename_i k i k' j e1 e2
          exact fin _ (rd_min ho hcal ha hx hy hF e1 e2) h
        · exact h.elim
      case h_6 hcal =>
        split at hc <;> first | (cases hc; done) | skip
        rename_i x y ha
        split at hc <;> first | (cases hc; done) | skip
        rename_i x' y' hx hy
        simp only [Option.some.injEq] at hc
        subst hc
        simp only [vcOp] at h
        split at h
        · rename_i k i k' j e1 e2
          exact fin _ (rd_max ho hcal ha hx hy hF e1 e2) h
        · exact h.elim
      case h_7 hcal =>
        split at hc <;> first | (cases hc; done) | skip
        rename_i x t ha ht
        split at hc <;> first | (cases hc; done) | skip
        rename_i e hu
        simp only [Option.map_eq_some_iff] at hc
        obtain ⟨y, hy, rfl⟩ := hc
        simp only [vcOp] at h
        split at h
        · rename_i ad n c' e1
          exact fin _ (rd_cap ho hcal ha ht hu hy hF e1) h
        · exact h.elim
      case h_8 hcal =>
        split at hc <;> first | (cases hc; done) | skip
        rename_i x i t ha ht
        split at hc <;> first | (cases hc; done) | skip
        rename_i kd z x' i' hT hx hi
        simp only [Option.some.injEq] at hc
        subst hc
        simp only [vcOp] at h
        split at h
        · rename_i b k e1 e2
          exact .inr ⟨rfl, fun Q => wp_mdl ho hcal ha ht hT hx hi hd hF hH e1 e2 h⟩
        · exact h.elim
      case h_9 => cases hc
    case h_22 t n c ho =>
      split at hc <;> first | (cases hc; done) | skip
      rename_i e n' c' ht hn hcc
      split at hc <;> first | (cases hc; done) | skip
      rename_i i df hi hdf
      split at hc <;> first | (cases hc; done) | skip
      rename_i zv hzv
      split at hc <;> first | (cases hc; done) | skip
      rename_i hok
      simp only [Option.some.injEq] at hc
      subst hc
      simp only [Bool.and_eq_true, beq_iff_eq, bne_iff_ne, ne_eq] at hok
      obtain ⟨⟨⟨⟨k1, k2⟩, k3⟩, k4⟩, k5⟩ := hok
      simp only [vcOp] at h
      split at h
      · rename_i kd m kd' m' e1 e2
        split at h
        · rename_i k hdst
          obtain ⟨⟨g1, rfl, g2⟩, g3, g4⟩ := h
          exact .inr ⟨rfl, fun Q => wp_mks ho ht hn hcc hi hzv (okB_ok k1) (scEqL_eq k2) k3 k5 hd hF hH hdst e1 e2 g1 g2 g3 g4⟩
        · exact h.elim
      · exact h.elim
    case h_23 t r ho =>
      split at hc <;> first | (cases hc; done) | skip
      simp only [Option.some.injEq] at hc
      subst hc
      exact .inr ⟨rfl, fun Q => wp_mkm ho hd hF hH h⟩
    case h_24 t x i ok ho =>
      split at hc <;> first | (cases hc; done) | skip
      · rename_i kd z x' i' hT hx hi
        simp only [Option.some.injEq] at hc
        subst hc
        simp only [vcOp] at h
        split at h
        · rename_i b k e1 e2
          obtain ⟨ob, l, h1, h2, h3, h4⟩ := h
          exact fin _ (rd_mlk ho hT hx hi hF e1 e2 h1 h2 h3) h4
        · exact h.elim
      · rename_i x' i' hT hx hi
        split at hc <;> first | (cases hc; done) | skip
        · rename_i z hT2
          simp only [Option.some.injEq] at hc
          subst hc
          simp only [vcOp] at h
          split at h
          · rename_i b g e1 e2
            obtain ⟨k, ob, l, rfl, h1, h2, h3⟩ := h
            exact fin _ (rd_mlk2 ho hT2 hx hi hF e1 e2 h1 h2) h3
          · exact h.elim
        · rename_i hT2
          split at hc <;> first | (cases hc; done) | skip
          rename_i z hG
          simp only [Option.some.injEq] at hc
          subst hc
          simp only [vcOp] at h
          split at h
          · rename_i b g e1 e2
            obtain ⟨k, ob, l, rfl, h1, h2, h3⟩ := h
            exact fin _ (rd_mlkG ho hT2 hG hx hi hF e1 e2 h1 h2) h3
          · exact h.elim
    case h_25 t x i v ho =>
      split at hc <;> first | (cases hc; done) | skip
      · rename_i kd z x' i' v' hT hx hi hv
        simp only [Option.some.injEq] at hc
        subst hc
        simp only [vcOp] at h
        split at h
        · rename_i b k y e1 e2 e3
          exact .inr ⟨rfl, fun Q => wp_mup (.inl ho) hT hx hi hv hd hF hH e1 e2 e3 h⟩
        · exact h.elim
      · rename_i x' i' v' hT hx hi hv
        split at hc <;> first | (cases hc; done) | skip
        · rename_i z hT2
          simp only [Option.some.injEq] at hc
          subst hc
          simp only [vcOp] at h
          split at h
          · rename_i b g y e1 e2 e3
            exact .inr ⟨rfl, fun Q => wp_mup2 (.inl ho) hT2 hx hi hv hd hF hH e1 e2 e3 h⟩
          · exact h.elim
        · rename_i hT2
          simp only [Option.some.injEq] at hc
          subst hc
          simp only [vcOp] at h
          split at h
          · rename_i b g y e1 e2 e3
            exact .inr ⟨rfl, fun Q => wp_mupG (.inl ho) hT2 hx hi hv hd hF hH e1 e2 e3 h⟩
          · exact h.elim
    case h_26 t x i v ho =>
      split at hc <;> first | (cases hc; done) | skip
      · rename_i kd z x' i' v' hT hx hi hv
        simp only [Option.some.injEq] at hc
        subst hc
        simp only [vcOp] at h
        split at h
        · rename_i b k y e1 e2 e3
          exact .inr ⟨rfl, fun Q => wp_mup (.inr ho) hT hx hi hv hd hF hH e1 e2 e3 h⟩
        · exact h.elim
      · rename_i x' i' v' hT hx hi hv
        split at hc <;> first | (cases hc; done) | skip
        · rename_i z hT2
          simp only [Option.some.injEq] at hc
          subst hc
          simp only [vcOp] at h
          split at h
          · rename_i b g y e1 e2 e3
            exact .inr ⟨rfl, fun Q => wp_mup2 (.inr ho) hT2 hx hi hv hd hF hH e1 e2 e3 h⟩
          · exact h.elim
        · rename_i hT2
          simp only [Option.some.injEq] at hc
          subst hc
          simp only [vcOp] at h
          split at h
          · rename_i b g y e1 e2 e3
            exact .inr ⟨rfl, fun Q => wp_mupG (.inr ho) hT2 hx hi hv hd hF hH e1 e2 e3 h⟩
          · exact h.elim
    case h_27 t x ho =>
      split at hc <;> first | (cases hc; done) | skip
      rename_i kd z x' hT hx
      simp only [Option.some.injEq] at hc
      subst hc
      simp only [vcOp] at h
      split at h
      · rename_i b e1
        exact .inr ⟨rfl, fun Q => wp_rng ho hT hx hd hF hH e1 h⟩
      · exact h.elim
    case h_28 x ho =>
      simp only [Option.map_eq_some_iff] at hc
      obtain ⟨y, hy, rfl⟩ := hc
      simp only [vcOp] at h
      split at h
      · rename_i r e1
        exact .inr ⟨rfl, fun Q => wp_nxt ho hy hd hF hH e1 h⟩
      · exact h.elim
    case h_29 x ho =>
      simp only [Option.map_eq_some_iff] at hc
      obtain ⟨y, hy, rfl⟩ := hc
      simp only [vcOp] at h
      split at h
      · rename_i r e1
        obtain ⟨it, b, ob, kd, l, s, p, h1, h2, h3, h4, h5⟩ := h
        exact fin _ (rd_ent ho hy hF e1 h1 h2 h3 h4) h5
      · exact h.elim
    case h_30 t x i ho =>
      split at hc <;> first | (cases hc; done) | skip
      rename_i z x' i' hT hx hi
      simp only [Option.some.injEq] at hc
      subst hc
      simp only [vcOp] at h
      split at h
      · rename_i b g e1 e2
        exact .inr ⟨rfl, fun Q => wp_men2 ho hT hx hi hd hF hH e1 e2 h⟩
      · exact h.elim
    case h_31 t x s v ho =>
      split at hc <;> first | (cases hc; done) | skip
      rename_i z x' s' v' hT hx hs hv
      simp only [Option.some.injEq] at hc
      subst hc
      simp only [vcOp] at h
      split at h
      · rename_i b s y e1 e2 e3
        exact .inr ⟨rfl, fun Q => wp_mes2 ho hT hx hs hv hd hF hH e1 e2 e3 h⟩
      · exact h.elim
    case h_32 => cases hc

theorem vcOp_sound (hd : ∀ t, o.dst = some t → t < C.N) (h : vcOp C o.dst K σ (cOp C.P o)) (hR : Rel C σ a w) : o.wp C.P a w (liftK C K) Q := by
  obtain ⟨loc, hF, hH⟩ := hR
  rcases vcOp_split hd h hF hH with ⟨x, hx, hk⟩ | h1
  · exact wp_of_reads hd hx hF hH hk
  · exact h1.2 Q

theorem cOp_call {f : Nat} {args : List Opd} (hro : cOp C.P o = .call f args) : ∃ c fn, o.op = .call c ∧ c.callee = .value (.func f) ∧ C.P.funcs[f]? = some fn ∧ (fn.body.isSome && fn.name != "runtime.NumGoroutine") = true ∧ c.args.toList.mapM cOpd = some args := by
  unfold cOp at hro
  cases hc : cOp? C.P o with
  | none => rw [hc] at hro; cases hro
  | some ro =>
    rw [hc] at hro
    simp only [Option.getD_some] at hro
    subst hro
    unfold cOp? at hc
    split at hc
    case h_21 c ho =>
      split at hc
      case h_2 f' hcal =>
        split at hc <;> first | (cases hc; done) | skip
        rename_i fn hfn
        split at hc <;> first | (cases hc; done) | skip
        rename_i hb
        simp only [Option.map_eq_some_iff] at hc
        obtain ⟨args', ha, he⟩ := hc
        simp only [RO.call.injEq] at he
        obtain ⟨rfl, rfl⟩ := he
        exact ⟨c, fn, ho, hcal, hfn, hb, ha⟩
      all_goals (repeat' (split at hc)) <;> first | (cases hc; done) | (simp only [Option.map_eq_some_iff] at hc; obtain ⟨_, _, he⟩ := hc; cases he)
    all_goals (repeat' (split at hc)) <;> first | (cases hc; done) | (simp only [Option.map_eq_some_iff] at hc; obtain ⟨_, _, he⟩ := hc; cases he)

theorem cOp_callV {x : Opd} {args : List Opd} (hro : cOp C.P o = .callV x args) : ∃ c v, o.op = .call c ∧ c.callee = .value (.tmp v) ∧ x = .t v ∧ c.args.toList.mapM cOpd = some args := by
  unfold cOp at hro
  cases hc : cOp? C.P o with
  | none => rw [hc] at hro; cases hro
  | some ro =>
    rw [hc] at hro
    simp only [Option.getD_some] at hro
    subst hro
    unfold cOp? at hc
    split at hc
    case h_21 c ho =>
      split at hc
      case h_1 v hcal =>
        simp only [Option.map_eq_some_iff] at hc
        obtain ⟨args', ha, he⟩ := hc
        simp only [RO.callV.injEq] at he
        obtain ⟨rfl, rfl⟩ := he
        exact ⟨c, v, ho, hcal, rfl, ha⟩
      all_goals (repeat' (split at hc)) <;> first | (cases hc; done) | (simp only [Option.map_eq_some_iff] at hc; obtain ⟨_, _, he⟩ := hc; cases he)
    all_goals (repeat' (split at hc)) <;> first | (cases hc; done) | (simp only [Option.map_eq_some_iff] at hc; obtain ⟨_, _, he⟩ := hc; cases he)

theorem callV_run {f v : Nat} {args : List Opd} {c : Call} {fn : Func} {p q : Array Value} (ho : o.op = .call c) (hc : c.callee = .value (.tmp v)) (hf : C.P.funcs[f]? = some fn) (hfn : (fn.body.isSome && fn.name != "runtime.NumGoroutine") = true)
    (ha : c.args.toList.mapM cOpd = some args) (hv : a.tmps.getD v undef = .func (.func f) p q) : (execOp a.eval o).run C.P w = .ok (.enter f ((p.toList.map Opd.c ++ args ++ q.toList.map Opd.c).map (evO a)).toArray) w := by
  have hargs : c.args.map a.eval = (args.map (evO a)).toArray := by
    rw [← mapM_eval ha a]
    apply Array.toList_inj.mp
    simp
  have hcs : ∀ l : List Value, (l.map Opd.c).map (evO a) = l := fun l => by
    induction l with
    | nil => rfl
    | cons x l ih => simp only [List.map_cons, ih]; rfl
  obtain ⟨dst, op, type, pos, after, guard⟩ := o
  obtain ⟨callee, cargs, argTypes⟩ := c
  simp only at ho hc hargs
  subst ho; subst hc
  simp at hfn
  obtain ⟨b, hb⟩ := Option.isSome_iff_exists.mp hfn.1
  have hv' : a.tmps[v]?.getD undef = .func (.func f) p q := by simpa using hv
  have hl : ((p.toList.map Opd.c ++ args ++ q.toList.map Opd.c).map (evO a)).toArray = p ++ (args.map (evO a)).toArray ++ q := by
    apply Array.toList_inj.mp
    simp [hcs]
  rw [hl]
  simp [execOp, resolve, Deferred.ofValue, Act.eval, hv', invoke, callFunc, Sem.run_bind, hf, hfn.2, hb, hargs]

/-- An operation that only looks, or such a call. -/
theorem vcqOp_sound {q : Act → Prop} (hd : ∀ t, o.dst = some t → t < C.N) (h : vcqOp C o.dst K σ (cOp C.P o)) (hF : FR loc C.N σ.fr σ.pv σ.ph a) (hW : ∃ w, HR C loc σ.pv σ.ph σ.m w)
    (hq : ∀ x v, SVr loc σ.pv x v → K (σ.put o.dst x) → q (a.put o.dst v)) : o.quiet C.P a (fun w => HR C loc σ.pv σ.ph σ.m w) q := by
  unfold vcqOp at h
  split at h
  · rename_i f args hro
    obtain ⟨y, hy, hcall, hk⟩ := h
    refine ⟨y.val, fun w hw => ?_, hq (.g y) y.val ⟨hy, rfl⟩ hk⟩
    obtain ⟨c, fn, ho, hcal, hfn, hb, ha⟩ := cOp_call hro
    unfold Oper.quietAt
    rw [call_run ho hcal hfn hb ha]
    exact ⟨rfl, hcall loc a w hF hw⟩
  · rename_i x args hro
    split at h
    · rename_i f p q' e1
      obtain ⟨⟨fn, hfn, hb⟩, y, hy, hcall, hk⟩ := h
      refine ⟨y.val, fun w hw => ?_, hq (.g y) y.val ⟨hy, rfl⟩ hk⟩
      obtain ⟨c, v, ho, hcal, rfl, ha⟩ := cOp_callV hro
      unfold Oper.quietAt
      rw [callV_run ho hcal hfn hb ha (by have := (hF.ev rfl e1).s; simpa [evO] using this)]
      exact ⟨rfl, hcall loc a w hF hw⟩
    · exact h.elim
  · obtain ⟨h1, h2⟩ := h
    obtain ⟨w, hw⟩ := hW
    rcases vcOp_split hd h2 hF hw with ⟨x, ⟨v, hv, hrun, _⟩, hk⟩ | h3
    · refine ⟨v, fun w hw => ?_, hq x v hv hk⟩
      unfold Oper.quietAt
      rw [hrun w hw]
      exact ⟨rfl, rfl⟩
    · rw [h3.1] at h1; cases h1

end
end Go.Proofs.YtmjiojflncffeaaGreat.Vc

/- A region whose order is open: what only looks, in whatever order; what acts behind it, in the order of the text. -/
set_option linter.unusedVariables false
set_option linter.unusedSimpArgs false
namespace Go.Proofs.YtmjiojflncffeaaGreat.Vc
open Go

section
variable {P : Program} {ops : Array Oper} {C : World → Prop}

/-- The first n operations come up in whatever order; then L. -/
def HeadQ (P : Program) (ops : Array Oper) (C : World → Prop) (n : Nat) (L : Array Bool → Act → Prop) : Nat → Array Bool → Act → Prop
  | 0, lst, a => L lst a
  | f + 1, lst, a => Region.ready .any ops lst ≠ [] ∧ ∀ i ∈ Region.ready .any ops lst, i < n ∧ qOp P ops C i (HeadQ P ops C n L f (lst.setIfInBounds i true)) a

theorem HeadQ.any {n g : Nat} {L : Array Bool → Act → Prop} {Q : Exit → Act → World → Prop} (hL : ∀ lst a w, C w → L lst a → wpAny P .any ops Q g lst a w) : ∀ (f : Nat) (lst : Array Bool) (a : Act) (w : World), C w → HeadQ P ops C n L f lst a → wpAny P .any ops Q (g + f) lst a w := by
  intro f
  induction f with
  | zero => exact fun lst a w hw h => hL lst a w hw h
  | succ f ih =>
    intro lst a w hw ⟨h0, h⟩
    show wpAny P .any ops Q ((g + f) + 1) lst a w
    exact ⟨fun e => absurd e h0, fun i hi => wpOp_of_qOp hw (fun a' w' hw' h' => ih _ a' w' hw' h') (h i hi).2⟩

/-- One that looks, and that may come up now, may be taken first. -/
theorem HeadQ.first {n i : Nat} {o : Oper} {v : Value} {L : Array Bool → Act → Prop} (ho : ops[i]? = some o) (hns : Region.noSelect ops = true) (hsk : Region.sinkB .any ops n = true) (hch : Region.chainB .any ops n = true) (hn : n < ops.size) (hi : i < n)
    (hend : ∀ lst a, L lst a → ∀ j ∈ Region.ready .any ops lst, n ≤ j) (f : Nat) : ∀ (lst : Array Bool) (a : Act), HeadInv .any ops n lst →
      (∀ j oj, ops[j]? = some oj → j ≠ i → lst.getD j true = false → (∀ e ∈ oj.after, Region.binds .any e = true → e.on ≠ i) → o.apart ops oj = true) →
      i ∈ Region.ready .any ops lst → YieldsIn P ops C o v a → HeadQ P ops C n L f (lst.setIfInBounds i true) (a.put o.dst v) → HeadQ P ops C n L (f + 1) lst a := by
  have hsel := Region.noSelect_spec hns
  induction f with
  | zero =>
    intro lst a inv hap hr hy h
    refine ⟨List.ne_nil_of_mem hr, fun j hj => ?_⟩
    by_cases hji : j = i
    · subst hji; exact ⟨hi, hy.qOp ho h⟩
    · have h1 := hend _ _ h j (ready_mono hj hji)
      exact absurd hj (tail_waits hsk hch hn inv _ i rfl hi (mem_ready.1 hr).1 j h1)
  | succ f ih =>
    intro lst a inv hap hr hy h
    have hun := (mem_ready.1 hr).1
    refine ⟨List.ne_nil_of_mem hr, fun j hj => ?_⟩
    have hjn : j < n := Nat.lt_of_not_le fun hle => tail_waits hsk hch hn inv _ i rfl hi hun j hle hj
    refine ⟨hjn, ?_⟩
    by_cases hji : j = i
    · subst hji; exact hy.qOp ho h
    · obtain ⟨hjun, oj, hoj, hall⟩ := mem_ready.1 hj
      have hnot : ∀ e ∈ oj.after, Region.binds .any e = true → e.on ≠ i := fun e he hb heq => by
        have h3 := hall e he hb
        rw [heq, getD_both hun] at h3
        cases h3
      have hq := qOp_put hoj (hap j oj hoj hji hjun hnot) (fun cs b => hsel i o cs b ho) (fun cs b => hsel j oj cs b hoj) hy (h.2 j (ready_mono hj hji)).2
      refine qOp_mono (fun a' h3 => ?_) hq
      refine ih _ a' (inv.set hj hjn) (fun k ok hk hki hu hno => hap k ok hk hki ?_ hno) (ready_mono hr (Ne.symm hji)) h3.1 ?_
      · by_cases hjk : j = k
        · subst hjk; exact hjun
        · rw [getD_set_ne true hjk] at hu; exact hu
      · rw [Array.setIfInBounds_comm _ _ hji]; exact h3.2

theorem HeadQ.lex {n g : Nat} {A : Act → Prop} (hns : Region.noSelect ops = true) (hsk : Region.sinkB .any ops n = true) (hch : Region.chainB .any ops n = true) (hn : n < ops.size) : ∀ (l : List Oper) (k : Nat) (lst : Array Bool) (a : Act),
    (∀ j, j < l.length → l[j]? = ops[k + j]?) → k + l.length = n → HeadInv .any ops n lst → Region.lexHead .any ops g l.length k lst = true → wpQuiet P ops C A l a →
    HeadQ P ops C n (fun lst' a' => Region.seqB .any ops g n lst' = true ∧ A a') l.length lst a := by
  intro l
  induction l with
  | nil =>
    intro k lst a hl hk inv hB h
    simp only [List.length_nil, Nat.add_zero] at hk
    subst hk
    exact ⟨hB, h⟩
  | cons o l ih =>
    intro k lst a hl hk inv hB h
    have h0 : ops[k]? = some o := by simpa using (hl 0 (by simp)).symm
    simp only [List.length_cons] at hk
    simp only [List.length_cons, Region.lexHead, Bool.and_eq_true] at hB
    have hr : k ∈ Region.ready .any ops lst := by simpa using hB.1.1
    have hq : qOp P ops C k (wpQuiet P ops C A l) a := by unfold qOp; simp only [h0]; exact h
    obtain ⟨v, hy, hK⟩ := yieldsIn_of_qOp h0 hq
    refine HeadQ.first h0 hns hsk hch hn (by omega) (fun lst' a' hL => seqB_ready hL.1) l.length lst a inv (Region.free_spec h0 hB.1.2) hr hy ?_
    exact ih (k + 1) _ _ (fun j hj => by
      have := hl (j + 1) (by simp; omega)
      simpa [Nat.add_assoc, Nat.add_comm 1 j] using this) (by omega) (inv.set hr (by omega)) hB.2 hK

/-- The head looks (in every world of the class alike), the tail acts. -/
theorem wp_region_qt {id : Nat} {Q : Exit → Act → World → Prop} {a : Act} {w : World} (n : Nat) (hm : P.follows .mixedOrders = true) (hB : Region.lexTailB .any ops n = true) (hC : C { w with drawn := w.drawn + 1 })
    (h : wpQuiet P ops C (fun a' => ∀ w', C w' → wpList P ops Q (ops.toList.drop n) a' w') (ops.toList.take n) a) : (Code.region id ops true).wp P Q a w := by
  simp only [Region.lexTailB, Bool.and_eq_true, decide_eq_true_eq] at hB
  obtain ⟨⟨⟨⟨hns, hn⟩, hsk⟩, hch⟩, hlex⟩ := hB
  have htl : (ops.toList.take n).length = n := by simp; omega
  have hdl : (ops.toList.drop n).length = ops.size - n := by simp
  have inv0 : HeadInv .any ops n (Array.replicate ops.size false) :=
    ⟨by simp, fun j oj _ hl => (by rw [getD_replicate_false] at hl; cases hl), fun t _ ht => getD_in (by simpa using ht) (getD_replicate_false _ _)⟩
  have H := HeadQ.lex (P := P) (C := C) (g := ops.size - n) hns hsk hch hn (ops.toList.take n) 0 _ a (fun j hj => by
    rw [htl] at hj
    simp [hj]) (by omega) inv0 (by rw [htl]; exact hlex) h
  refine wp_region_any hm ?_
  have := HeadQ.any (Q := Q) (g := ops.size - n) (fun lst a' w' hw' hL => by
    have h2 := wpAny_of_seq (md := .any) (Q' := Q) (ops.toList.drop n) n lst a' w' (fun j => by simp [List.getElem?_drop]) (by rw [hdl]; exact hL.1) (hL.2 w' hw')
    rwa [hdl] at h2) _ _ _ _ hC H
  rw [htl, show ops.size - n + n = ops.size by omega] at this
  exact this

end
end Go.Proofs.YtmjiojflncffeaaGreat.Vc

/- A region whose order is open: every order there is; what looks at its slots alone, ahead. -/
set_option linter.unusedVariables false
set_option linter.unusedSimpArgs false
namespace Go.Proofs.YtmjiojflncffeaaGreat.Vc
open Go

section
variable {P : Program} {ops : Array Oper}

def wpOpN (P : Program) (ops : Array Oper) (i : Nat) (K : Act → World → Prop) (a : Act) (w : World) : Prop :=
  match ops[i]? with
  | none => K a w
  | some o => if Region.wanted o (yielded ops a.tmps) then o.wp P a w K (fun _ _ _ => False) else K (a.put o.dst undef) w

def wpAnyN (P : Program) (ops : Array Oper) (D : Act → World → Prop) : Nat → Array Bool → Act → World → Prop
  | 0, l, a, w => Region.ready .any ops l = [] ∧ D a w
  | f + 1, l, a, w => (Region.ready .any ops l = [] → D a w) ∧ ∀ i ∈ Region.ready .any ops l, wpOpN P ops i (wpAnyN P ops D f (l.setIfInBounds i true)) a w

theorem wp_noexit {o : Oper} {a : Act} {w : World} {K K' : Act → World → Prop} {Q : Exit → Act → World → Prop} (hK : ∀ a w, K a w → K' a w) (h : o.wp P a w K (fun _ _ _ => False)) : o.wp P a w K' Q := by
  unfold Oper.wp at *
  generalize (execOp a.eval o).run P w = r at *
  cases r with
  | ok n w' =>
    cases n <;> simp only [Oper.upon] at h ⊢
    case value v => exact hK _ _ h
    case skip => exact hK _ _ h
    case defer d => exact hK _ _ h
    case enter f args =>
      refine Calls.mono h fun e w'' he => ?_
      cases e with
      | returned u => exact hK _ _ he
      | panicked c => exact he.elim
      | outgrown => obtain ⟨_, _, h⟩ := he; exact h.elim
    case row row args => exact Rows.mono h fun u w'' he => hK _ _ he
  | halt x w' => cases x <;> simp only [Oper.upon] at h ⊢

theorem wpAny_of_N {D : Act → World → Prop} {Q : Exit → Act → World → Prop} (hD : ∀ a w, D a w → Q .normal a w) : ∀ (f : Nat) (l : Array Bool) (a : Act) (w : World), wpAnyN P ops D f l a w → wpAny P .any ops Q f l a w
  | 0, _, _, _, h => ⟨h.1, hD _ _ h.2⟩
  | f + 1, l, a, w, h => ⟨fun e => hD _ _ (h.1 e), fun i hi => by
    have h1 := h.2 i hi
    unfold wpOpN at h1
    unfold wpOp
    split
    · rename_i ho; simp only [ho] at h1; exact wpAny_of_N hD f _ _ _ h1
    · rename_i o ho
      simp only [ho] at h1
      split
      · rename_i hw
        rw [if_pos hw] at h1
        exact .inl (wp_noexit (fun a' w' => wpAny_of_N hD f _ a' w') h1)
      · rename_i hw
        rw [if_neg hw] at h1
        exact wpAny_of_N hD f _ _ _ h1⟩

/-- It gives v, in whatever world. -/
def YieldsEv (P : Program) (ops : Array Oper) (o : Oper) (v : Value) (a : Act) : Prop :=
  (Region.wanted o (yielded ops a.tmps) = true ∧ ∀ w, (execOp a.eval o).run P w = .ok (.value v) w) ∨ (Region.wanted o (yielded ops a.tmps) = false ∧ v = undef)

theorem YieldsEv.wpOpN {i : Nat} {o : Oper} {v : Value} {a : Act} {w : World} (hi : ops[i]? = some o) (hy : YieldsEv P ops o v a) {K : Act → World → Prop} (h : K (a.put o.dst v) w) : wpOpN P ops i K a w := by
  unfold Go.Proofs.YtmjiojflncffeaaGreat.Vc.wpOpN
  simp only [hi]
  rcases hy with ⟨h1, h2⟩ | ⟨h1, rfl⟩
  · rw [if_pos h1]
    unfold Oper.wp
    rw [h2, Oper.upon_value]
    exact h
  · rw [h1]; exact h

theorem YieldsEv.of_same {o : Oper} {v : Value} {a a' : Act} (hy : YieldsEv P ops o v a) (he : execOp a'.eval o = execOp a.eval o) (hw : Region.wanted o (yielded ops a'.tmps) = Region.wanted o (yielded ops a.tmps)) : YieldsEv P ops o v a' := by
  unfold YieldsEv at *
  rw [he, hw]
  exact hy

theorem put_defers (a : Act) (d : Option Tmp) (v : Value) (ds : List Deferred) : ({ a with defers := ds } : Act).put d v = { a.put d v with defers := ds } := by
  cases d <;> rfl
theorem put_has (a : Act) (d : Option Tmp) (v : Value) : (a.put d v).defers = a.defers := by
  cases d <;> rfl

theorem wpOpN_put {j : Nat} {oi oj : Oper} {v : Value} {w : World} (hj : ops[j]? = some oj) (hap : oi.apart ops oj = true)
    (hsi : ∀ cs b, oi.op ≠ .select cs b) (hsj : ∀ cs b, oj.op ≠ .select cs b) {K : Act → World → Prop} {a : Act}
    (hy : YieldsEv P ops oi v a) (h : wpOpN P ops j K (a.put oi.dst v) w) :
    wpOpN P ops j (fun a' w' => YieldsEv P ops oi v a' ∧ K (a'.put oi.dst v) w') a w := by
  obtain ⟨h1, h2, h3⟩ := Oper.apart_spec hap
  have keep : ∀ (b : Act), YieldsEv P ops oi v b → ∀ u, YieldsEv P ops oi v (b.put oj.dst u) := fun b hb u =>
    hb.of_same (execOp_put oi hsi b oj.dst u h3) (wanted_put oi b oj.dst u h3)
  unfold wpOpN at *
  simp only [hj] at *
  rw [wanted_put oj a oi.dst v h1] at h
  split
  · rename_i hw
    rw [if_pos hw] at h
    unfold Oper.wp at *
    rw [execOp_put oj hsj a oi.dst v h1] at h
    generalize (execOp a.eval oj).run P w = r at *
    cases r with
    | ok n w' =>
      cases n <;> simp only [Oper.upon] at h ⊢
      case value u => exact ⟨keep a hy u, by rw [← Act.put_comm a v u h2]; exact h⟩
      case skip => exact ⟨keep a hy _, by rw [← Act.put_comm a v undef h2]; exact h⟩
      case defer d =>
        refine ⟨keep _ (hy.of_same (a' := { a with defers := d :: a.defers }) rfl rfl) _, ?_⟩
        rw [← Act.put_comm _ v undef h2, put_defers a oi.dst v]
        rw [put_has] at h
        exact h
      case enter f args =>
        refine Calls.mono h fun e w'' he => ?_
        cases e with
        | returned u => exact ⟨keep a hy u, by rw [← Act.put_comm a v u h2]; exact he⟩
        | panicked c => exact he
        | outgrown => exact he
      case row row args => exact Rows.mono h fun u w'' he => ⟨keep a hy u, by rw [← Act.put_comm a v u h2]; exact he⟩
    | halt x w' => cases x <;> simp only [Oper.upon] at h ⊢
  · rename_i hw
    rw [if_neg hw] at h
    exact ⟨keep a hy _, by rw [← Act.put_comm a v undef h2]; exact h⟩

theorem wpOpN_mono {i : Nat} {a : Act} {w : World} {K K' : Act → World → Prop} (h : ∀ a w, K a w → K' a w) (hh : wpOpN P ops i K a w) : wpOpN P ops i K' a w := by
  unfold wpOpN at *
  split
  · rename_i ho; simp only [ho] at hh; exact h _ _ hh
  · rename_i o ho
    simp only [ho] at hh
    split
    · rename_i hw; rw [if_pos hw] at hh; exact wp_noexit h hh
    · rename_i hw; rw [if_neg hw] at hh; exact h _ _ hh

theorem getD_un {listed : Array Bool} {i : Nat} (h : listed.getD i true = false) : listed.getD i false = false := by
  rcases Nat.lt_or_ge i listed.size with h' | h'
  · simp [h'] at h ⊢; exact h
  · simp [Array.getElem?_eq_none h'] at h

/-- What looks at its slots alone may be taken first. -/
theorem wpAnyN_first {D : Act → World → Prop} {i : Nat} {oi : Oper} {v : Value} (hi : ops[i]? = some oi) (hsel : ∀ (j : Nat) (o : Oper) cs b, ops[j]? = some o → o.op ≠ .select cs b) :
    ∀ (f : Nat) (l : Array Bool) (a : Act) (w : World),
      (∀ j oj, ops[j]? = some oj → j ≠ i → l.getD j true = false → (∀ e ∈ oj.after, Region.binds .any e = true → e.on ≠ i) → oi.apart ops oj = true) →
      i ∈ Region.ready .any ops l → YieldsEv P ops oi v a →
      wpAnyN P ops D f (l.setIfInBounds i true) (a.put oi.dst v) w → wpAnyN P ops D (f + 1) l a w := by
  intro f
  induction f with
  | zero =>
    intro l a w _ hr hy H
    refine ⟨fun h => (by rw [h] at hr; cases hr), fun j hj => ?_⟩
    by_cases hji : j = i
    · subst hji; exact hy.wpOpN hi H
    · have := ready_mono hj hji
      rw [H.1] at this
      cases this
  | succ f ih =>
    intro l a w hfree hr hy H
    refine ⟨fun h => (by rw [h] at hr; cases hr), fun j hj => ?_⟩
    by_cases hji : j = i
    · subst hji; exact hy.wpOpN hi H
    · have h1 := H.2 j (ready_mono hj hji)
      obtain ⟨hjun, oj, hoj, hall⟩ := mem_ready.1 hj
      have hnot : ∀ e ∈ oj.after, Region.binds .any e = true → e.on ≠ i := fun e he hb heq => by
        have h1 := hall e he hb
        have h0 := (mem_ready.1 hr).1
        rw [heq, getD_un h0] at h1
        cases h1
      have h2 := wpOpN_put hoj (hfree j oj hoj hji hjun hnot) (fun cs b => hsel i oi cs b hi) (fun cs b => hsel j oj cs b hoj) hy h1
      have hfree' : ∀ k ok, ops[k]? = some ok → k ≠ i → (l.setIfInBounds j true).getD k true = false →
          (∀ e ∈ ok.after, Region.binds .any e = true → e.on ≠ i) → oi.apart ops ok = true := fun k ok hk hki hun hno => by
        refine hfree k ok hk hki ?_ hno
        by_cases hjk : j = k
        · subst hjk; exact hjun
        · rw [getD_set_ne true hjk] at hun; exact hun
      refine wpOpN_mono (fun a' w' h3 => ih (l.setIfInBounds j true) a' w' hfree' (ready_mono hr (Ne.symm hji)) h3.1 ?_) h2
      rw [Array.setIfInBounds_comm _ _ hji]
      exact h3.2

end

section
variable {C : Ctx} {ops : Array Oper} {K : KT} {σ : SS} {a : Act} {w : World}

theorem cOp_noGh (P : Program) (o : Oper) : (cOp P o).isGh = false := by
  cases h : (cOp P o).isGh with
  | false => rfl
  | true =>
    have hg : cOp P o = .gh := by
      generalize cOp P o = r at h
      cases r <;> first | rfl | (cases h; done)
    unfold cOp at hg
    cases hc : cOp? P o with
    | none => rw [hc] at hg; cases hg
    | some ro =>
      rw [hc] at hg
      simp only [Option.getD_some] at hg
      subst hg
      unfold cOp? at hc
      repeat' (split at hc)
      all_goals first | (cases hc; done) | (simp only [Option.map_eq_some_iff] at hc; obtain ⟨_, _, he⟩ := hc; cases he)

theorem isPure_rd {P : Program} {o : Oper} (h : isPure (cOp P o) = true) : isRd (cOp P o) = true := by
  unfold isPure at h
  split at h <;> first | (cases h; done) | exact h

theorem pure_run {i : Nat} {o : Oper} (hi : ops[i]? = some o) (hd : dstOk C.N o = true) (hk : guardOk ops o = true) (hp : isPure (cOp C.P o) = true) (hR : Rel C σ a w) (h : vcSegs C [segOf C.P ops i] K σ) :
    ∃ v τ, YieldsEv C.P ops o v a ∧ K τ ∧ Rel C τ (a.put o.dst v) w := by
  have hd' : ∀ t, o.dst = some t → t < C.N := fun t ht => by simpa [dstOk, ht] using hd
  have run : ∀ σ, Rel C σ a w → Region.wanted o (yielded ops a.tmps) = true → vcOp C o.dst K σ (cOp C.P o) → ∃ v τ, YieldsEv C.P ops o v a ∧ K τ ∧ Rel C τ (a.put o.dst v) w := by
    rintro σ ⟨loc, hF, hH⟩ hw hv
    rcases vcOp_split hd' hv hF hH with ⟨x, ⟨v, hv, _, hrun⟩, hK⟩ | h3
    · obtain ⟨q1, q2, q3⟩ := σ.put_pv o.dst x
      exact ⟨v, _, .inl ⟨hw, hrun hp⟩, hK, loc, by rw [q1, q2]; exact hF.put hd' rfl hv, by rw [q1, q2, q3]; exact hH⟩
    · rw [isPure_rd hp] at h3; cases h3.1
  have skip : ∀ σ, Rel C σ a w → Region.wanted o (yielded ops a.tmps) = false → K (σ.put o.dst .no) → ∃ v τ, YieldsEv C.P ops o v a ∧ K τ ∧ Rel C τ (a.put o.dst v) w := by
    rintro σ ⟨loc, hF, hH⟩ hw hK
    obtain ⟨q1, q2, q3⟩ := σ.put_pv o.dst .no
    exact ⟨undef, _, .inr ⟨hw, rfl⟩, hK, loc, by rw [q1, q2]; exact hF.put hd' rfl (x := .no) (v := undef) rfl, by rw [q1, q2, q3]; exact hH⟩
  have hng := cOp_noGh C.P o
  unfold segOf at h
  simp only [hi] at h
  cases hg : gOf ops o with
  | none =>
    rw [hg] at h
    have hw : Region.wanted o (yielded ops a.tmps) = true := by
      unfold gOf at hg; unfold Region.wanted
      cases hgg : o.guard with
      | none => rfl
      | some x => simp [hgg] at hg
    exact run σ hR hw h
  | some x =>
    obtain ⟨t, want⟩ := x
    rw [hg] at h
    have hwant : Region.wanted o (yielded ops a.tmps) = (match a.tmps[t]? with | some (.bool b) => b == want | _ => false) := by
      unfold gOf at hg; unfold guardOk at hk; unfold Region.wanted
      cases hgg : o.guard with
      | none => simp [hgg] at hg
      | some x =>
        obtain ⟨j, v⟩ := x
        simp only [hgg, Option.map_some, Option.some.injEq, Prod.mk.injEq] at hg
        simp only [hgg] at hk
        cases hdd : (ops[j]?).bind (·.dst) with
        | none => simp [hdd] at hk
        | some t' =>
          simp only [hdd, Option.getD_some] at hg hk
          obtain ⟨rfl, rfl⟩ := hg
          simp only [yielded, hdd, Option.bind_some]
          cases a.tmps[t']? with
          | none => rfl
          | some u => cases u <;> first | rfl | (rename_i b; cases b <;> cases v <;> rfl)
    simp only [vcSegs, brB, skipAll, hng, cond_false] at h
    split at h
    · rename_i b hl
      have hR' := hR
      obtain ⟨loc, hF, hH⟩ := hR'
      obtain ⟨v, hv, hs⟩ := hF.slots t _ hl
      have hvb : v = .bool b := hs.2
      subst hvb
      have hre : ∀ c, c = b → Rel C (σ.put (some t) (.g (.s (.bool c)))) a w := fun c hc => ⟨loc, ⟨hF.defers, hF.size, fun u y hy => by
        rw [look_put] at hy
        by_cases hu : u = t
        · simp only [hu, if_true, Option.some.injEq] at hy
          subst hy; subst hu; subst hc
          exact ⟨.bool c, hv, rfl, rfl⟩
        · simp only [hu, if_false] at hy
          exact hF.slots u y hy⟩, hH⟩
      by_cases hb : b = want
      · exact run _ (hre want hb.symm) (by rw [hwant, hv]; simp [hb]) (h.1 hb)
      · have hb' : b = !want := by cases b <;> cases want <;> simp_all
        exact skip _ (hre (!want) hb'.symm) (by rw [hwant, hv]; simp [hb']) (h.2 hb')
    · rename_i hl
      have hR' := hR
      obtain ⟨loc, hF, hH⟩ := hR'
      obtain ⟨v, hv, hs⟩ := hF.slots t _ hl
      have hvu : v = undef := hs
      exact skip σ hR (by rw [hwant, hv, hvu]; rfl) h
    · exact h.elim

/-- One operation, whatever it is. -/
theorem one_run {i : Nat} {o : Oper} (hi : ops[i]? = some o) (hd : dstOk C.N o = true) (hk : guardOk ops o = true) (hR : Rel C σ a w) (h : vcSegs C [segOf C.P ops i] K σ) : wpOpN C.P ops i (liftK C K) a w := by
  have hd' : ∀ t, o.dst = some t → t < C.N := fun t ht => by simpa [dstOk, ht] using hd
  have run : ∀ σ, Rel C σ a w → Region.wanted o (yielded ops a.tmps) = true → vcOp C o.dst K σ (cOp C.P o) → wpOpN C.P ops i (liftK C K) a w := by
    intro σ hR hw hv
    unfold wpOpN
    simp only [hi]
    rw [if_pos hw]
    exact vcOp_sound hd' hv hR
  have skip : ∀ σ, Rel C σ a w → Region.wanted o (yielded ops a.tmps) = false → K (σ.put o.dst .no) → wpOpN C.P ops i (liftK C K) a w := by
    rintro σ ⟨loc, hF, hH⟩ hw hK
    obtain ⟨q1, q2, q3⟩ := σ.put_pv o.dst .no
    unfold wpOpN
    simp only [hi]
    rw [hw]
    exact ⟨_, hK, loc, by rw [q1, q2]; exact hF.put hd' rfl (x := .no) (v := undef) rfl, by rw [q1, q2, q3]; exact hH⟩
  have hng := cOp_noGh C.P o
  unfold segOf at h
  simp only [hi] at h
  cases hg : gOf ops o with
  | none =>
    rw [hg] at h
    have hw : Region.wanted o (yielded ops a.tmps) = true := by
      unfold gOf at hg; unfold Region.wanted
      cases hgg : o.guard with
      | none => rfl
      | some x => simp [hgg] at hg
    exact run σ hR hw h
  | some x =>
    obtain ⟨t, want⟩ := x
    rw [hg] at h
    have hwant : Region.wanted o (yielded ops a.tmps) = (match a.tmps[t]? with | some (.bool b) => b == want | _ => false) := by
      unfold gOf at hg; unfold guardOk at hk; unfold Region.wanted
      cases hgg : o.guard with
      | none => simp [hgg] at hg
      | some x =>
        obtain ⟨j, v⟩ := x
        simp only [hgg, Option.map_some, Option.some.injEq, Prod.mk.injEq] at hg
        simp only [hgg] at hk
        cases hdd : (ops[j]?).bind (·.dst) with
        | none => simp [hdd] at hk
        | some t' =>
          simp only [hdd, Option.getD_some] at hg hk
          obtain ⟨rfl, rfl⟩ := hg
          simp only [yielded, hdd, Option.bind_some]
          cases a.tmps[t']? with
          | none => rfl
          | some u => cases u <;> first | rfl | (rename_i b; cases b <;> cases v <;> rfl)
    simp only [vcSegs, brB, skipAll, hng, cond_false] at h
    split at h
    · rename_i b hl
      have hR' := hR
      obtain ⟨loc, hF, hH⟩ := hR'
      obtain ⟨v, hv, hs⟩ := hF.slots t _ hl
      have hvb : v = .bool b := hs.2
      subst hvb
      have hre : ∀ c, c = b → Rel C (σ.put (some t) (.g (.s (.bool c)))) a w := fun c hc => ⟨loc, ⟨hF.defers, hF.size, fun u y hy => by
        rw [look_put] at hy
        by_cases hu : u = t
        · simp only [hu, if_true, Option.some.injEq] at hy
          subst hy; subst hu; subst hc
          exact ⟨.bool c, hv, rfl, rfl⟩
        · simp only [hu, if_false] at hy
          exact hF.slots u y hy⟩, hH⟩
      by_cases hb : b = want
      · exact run _ (hre want hb.symm) (by rw [hwant, hv]; simp [hb]) (h.1 hb)
      · have hb' : b = !want := by cases b <;> cases want <;> simp_all
        exact skip _ (hre (!want) hb'.symm) (by rw [hwant, hv]; simp [hb']) (h.2 hb')
    · rename_i hl
      have hR' := hR
      obtain ⟨loc, hF, hH⟩ := hR'
      obtain ⟨v, hv, hs⟩ := hF.slots t _ hl
      have hvu : v = undef := hs
      exact skip σ hR (by rw [hwant, hv, hvu]; rfl) h
    · exact h.elim

theorem ot_strip {K : KT} : ∀ (t : OT) (σ : SS), vcOT C K t σ → Rel C σ a w → ∃ t' τ, erO t' = erO t ∧ (∀ u, t' ≠ .gh u) ∧ vcOT C K t' τ ∧ Rel C τ a w
  | .gh u, σ, h, hR => by
    obtain ⟨τ, hR', h'⟩ := (show ghC C (vcOT C K u) σ from h).h a w hR
    exact ot_strip u τ h' hR'
  | .done, σ, h, hR => ⟨.done, σ, rfl, by simp, h, hR⟩
  | .bad, σ, h, hR => ⟨.bad, σ, rfl, by simp, h, hR⟩
  | .op s t, σ, h, hR => ⟨.op s t, σ, rfl, by simp, h, hR⟩
  | .first s t, σ, h, hR => ⟨.first s t, σ, rfl, by simp, h, hR⟩
  | .or s t, σ, h, hR => ⟨.or s t, σ, rfl, by simp, h, hR⟩
  | .held s t, σ, h, hR => ⟨.held s t, σ, rfl, by simp, h, hR⟩
  | .heldF s t, σ, h, hR => ⟨.heldF s t, σ, rfl, by simp, h, hR⟩
theorem erO_op {t : OT} {s : Seg} {u : OT} (h : erO t = .op s u) (hn : ∀ u, t ≠ .gh u) : ∃ u', t = .op s u' ∧ erO u' = u := by
  cases t <;> simp only [erO] at h <;> first | (cases h; done) | skip
  · cases h; exact ⟨_, rfl, rfl⟩
  · exact absurd rfl (hn _)
theorem erO_first {t : OT} {s : Seg} {u : OT} (h : erO t = .first s u) (hn : ∀ u, t ≠ .gh u) : ∃ u', t = .first s u' ∧ erO u' = u := by
  cases t <;> simp only [erO] at h <;> first | (cases h; done) | skip
  · cases h; exact ⟨_, rfl, rfl⟩
  · exact absurd rfl (hn _)
theorem erO_or {t a b : OT} (h : erO t = .or a b) (hn : ∀ u, t ≠ .gh u) : ∃ a' b', t = .or a' b' ∧ erO a' = a ∧ erO b' = b := by
  cases t <;> simp only [erO] at h <;> first | (cases h; done) | skip
  · cases h; exact ⟨_, _, rfl, rfl, rfl⟩
  · exact absurd rfl (hn _)
theorem erO_held {t : OT} {ts : List Nat} {u : OT} (h : erO t = .held ts u) (hn : ∀ u, t ≠ .gh u) : ∃ u', (t = .held ts u' ∨ t = .heldF ts u') ∧ erO u' = u := by
  cases t <;> simp only [erO] at h <;> first | (cases h; done) | skip
  · cases h; exact ⟨_, .inl rfl, rfl⟩
  · exact absurd rfl (hn _)
  · cases h; exact ⟨_, .inr rfl, rfl⟩
theorem ot_held_of {K : KT} {t u : OT} {ts : List Nat} {σ : SS} (h : erO t = .held ts u) (hn : ∀ u, t ≠ .gh u) (hK : vcOT C K t σ) : ∃ u' σ0, erO u' = u ∧ heldOk σ0 σ ts ∧ vcOTH C K ts σ0 u' σ ∧ HeldM σ0.m σ0.ph σ.m σ.ph := by
  obtain ⟨u', rfl | rfl, e⟩ := erO_held h hn
  · exact ⟨u', σ, e, hK.1, hK.2, HeldM.self _ _⟩
  · exact ⟨u', { σ with m := PH.no }, e, hK.1, hK.2, fun _ _ h => (by cases h), fun _ h => h⟩
theorem erO_done {t : OT} (h : erO t = .done) (hn : ∀ u, t ≠ .gh u) : t = .done := by
  cases t <;> simp only [erO] at h <;> first | (cases h; done) | skip
  · rfl
  · exact absurd rfl (hn _)
theorem erO_bad {t : OT} (h : erO t = .bad) (hn : ∀ u, t ≠ .gh u) : t = .bad := by
  cases t <;> simp only [erO] at h <;> first | (cases h; done) | skip
  · rfl
  · exact absurd rfl (hn _)
theorem orL_all {K : KT} {f : Nat → OT} : ∀ (l : List Nat) (t : OT) (σ : SS), erO t = orL (l.map f) → vcOT C K t σ → Rel C σ a w → ∀ i ∈ l, ∃ u τ, erO u = f i ∧ vcOT C K u τ ∧ Rel C τ a w
  | [], _, _, _, _, _, i, hi => by cases hi
  | [x], t, σ, he, h, hR, i, hi => by
    simp at hi; subst hi; exact ⟨t, σ, he, h, hR⟩
  | x :: y :: r, t, σ, he, h, hR, i, hi => by
    obtain ⟨t1, τ, e1, hn, h1, hR1⟩ := ot_strip t σ h hR
    obtain ⟨p, q, rfl, hp, hq⟩ := erO_or (e1.trans he) hn
    have h' : vcOT C K p τ ∧ vcOT C K q τ := h1
    rcases List.mem_cons.1 hi with rfl | hi
    · exact ⟨p, τ, hp, h'.1, hR1⟩
    · exact orL_all (y :: r) q τ hq h'.2 hR1 i hi

theorem ot_sound (hns : Region.noSelect ops = true) (hd : ∀ o ∈ ops, dstOk C.N o = true) (hg : ∀ o ∈ ops, guardOk ops o = true) : ∀ (f : Nat) (l : Array Bool) (t : OT) (σ : SS) (a : Act) (w : World),
    otOf C.P ops f l = erO t → vcOT C K t σ → Rel C σ a w → wpAnyN C.P ops (liftK C K) f l a w := by
  have hsel := Region.noSelect_spec hns
  intro f
  induction f with
  | zero =>
    intro l t0 σ0 a w he0 h0 hR0
    obtain ⟨t, σ, e1, hn, h, hR⟩ := ot_strip t0 σ0 h0 hR0
    have he := e1.trans he0.symm
    simp only [otOf] at he
    cases hr : (Region.ready .any ops l).isEmpty with
    | true => rw [hr] at he; obtain rfl := erO_done he hn; exact ⟨by simpa using hr, σ, h, hR⟩
    | false => rw [hr] at he; obtain rfl := erO_bad he hn; exact h.elim
  | succ f ih =>
    intro l t0 σ0 a w he0 h0 hR0
    obtain ⟨t, σ, e1, hn, h, hR⟩ := ot_strip t0 σ0 h0 hR0
    have he := e1.trans he0.symm
    simp only [otOf] at he
    cases hr : (Region.ready .any ops l).isEmpty with
    | true =>
      rw [hr] at he
      obtain rfl := erO_done he hn
      have hnil : Region.ready .any ops l = [] := by simpa using hr
      exact ⟨fun _ => ⟨σ, h, hR⟩, fun i hi => by rw [hnil] at hi; cases hi⟩
    | false =>
      rw [hr] at he
      simp only [cond_false] at he
      have hne : Region.ready .any ops l ≠ [] := fun e => by rw [e] at hr; cases hr
      split at he
      · rename_i i hf
        have hi := List.mem_of_find?_eq_some hf
        have hp := List.find?_some hf
        simp only [Bool.and_eq_true] at hp
        cases ho : ops[i]? with
        | none => rw [ho] at hp; cases hp.1
        | some o =>
          rw [ho] at hp
          have hmem : o ∈ ops := Array.mem_of_getElem? ho
          obtain ⟨u, rfl, hu⟩ := erO_op he hn
          obtain ⟨v, τ, hy, hK, hR'⟩ := pure_run ho (hd o hmem) (hg o hmem) hp.1 hR h
          exact wpAnyN_first ho hsel f l a w (Region.free_spec ho hp.2) hi hy (ih _ u τ _ _ hu.symm hK hR')
      · refine ⟨fun e => absurd e hne, fun i hi => ?_⟩
        obtain ⟨u0, τ0, hu0, h1, hR1⟩ := orL_all _ t σ he h hR i hi
        obtain ⟨u1, τ1, e2, hn2, h2, hR2⟩ := ot_strip u0 τ0 h1 hR1
        obtain ⟨u, rfl, hu⟩ := erO_op (e2.trans hu0) hn2
        obtain ⟨_, o, ho, _⟩ := mem_ready.1 hi
        have hmem : o ∈ ops := Array.mem_of_getElem? ho
        exact wpOpN_mono (fun a' w' ⟨τ, hK, hR'⟩ => ih _ u τ a' w' hu.symm hK hR') (one_run ho (hd o hmem) (hg o hmem) hR2 h2)

end
end Go.Proofs.YtmjiojflncffeaaGreat.Vc

/- A region whose order is open: loads of what no operation of it writes, ahead (the law is the library's OrdersHeld; here for what never leaves the region). -/
set_option linter.unusedVariables false
set_option linter.unusedSimpArgs false
namespace Go.Proofs.YtmjiojflncffeaaGreat.Vc
open Go

section
variable {P : Program} {ops : Array Oper} {S : World → Prop}

/-- Whatever order is picked, S behind every operation. -/
def wpAnyS (P : Program) (ops : Array Oper) (S : World → Prop) (D : Act → World → Prop) : Nat → Array Bool → Act → World → Prop
  | 0, l, a, w => Region.ready .any ops l = [] ∧ D a w
  | f + 1, l, a, w => (Region.ready .any ops l = [] → D a w) ∧ ∀ i ∈ Region.ready .any ops l, wpOpN P ops i (fun a' w' => S w' ∧ wpAnyS P ops S D f (l.setIfInBounds i true) a' w') a w

theorem wpAnyN_of_S {D : Act → World → Prop} : ∀ (f : Nat) (l : Array Bool) (a : Act) (w : World), wpAnyS P ops S D f l a w → wpAnyN P ops D f l a w
  | 0, _, _, _, h => h
  | f + 1, l, a, w, h => ⟨h.1, fun i hi => wpOpN_mono (fun a' w' h' => wpAnyN_of_S f _ a' w' h'.2) (h.2 i hi)⟩

/-- It gives v, in every world that meets S. -/
def YieldsS (P : Program) (ops : Array Oper) (S : World → Prop) (o : Oper) (v : Value) (a : Act) : Prop :=
  (Region.wanted o (yielded ops a.tmps) = true ∧ ∀ w, S w → (execOp a.eval o).run P w = .ok (.value v) w) ∨ (Region.wanted o (yielded ops a.tmps) = false ∧ v = undef)
theorem YieldsEv.toS {o : Oper} {v : Value} {a : Act} (h : YieldsEv P ops o v a) : YieldsS P ops S o v a := h.imp (fun ⟨h1, h2⟩ => ⟨h1, fun w _ => h2 w⟩) id

theorem YieldsS.wpOpN {i : Nat} {o : Oper} {v : Value} {a : Act} {w : World} (hi : ops[i]? = some o) (hy : YieldsS P ops S o v a) {K : Act → World → Prop} (hS : S w) (h : K (a.put o.dst v) w) : wpOpN P ops i K a w := by
  unfold Go.Proofs.YtmjiojflncffeaaGreat.Vc.wpOpN
  simp only [hi]
  rcases hy with ⟨h1, h2⟩ | ⟨h1, rfl⟩
  · rw [if_pos h1]
    unfold Oper.wp
    rw [h2 w hS, Oper.upon_value]
    exact h
  · rw [h1]; exact h

theorem YieldsS.of_same {o : Oper} {v : Value} {a a' : Act} (hy : YieldsS P ops S o v a) (he : execOp a'.eval o = execOp a.eval o) (hw : Region.wanted o (yielded ops a'.tmps) = Region.wanted o (yielded ops a.tmps)) : YieldsS P ops S o v a' := by
  unfold YieldsS at *
  rw [he, hw]
  exact hy

theorem wpOpN_putS {j : Nat} {oi oj : Oper} {v : Value} {w : World} (hj : ops[j]? = some oj) (hap : oi.apart ops oj = true)
    (hsi : ∀ cs b, oi.op ≠ .select cs b) (hsj : ∀ cs b, oj.op ≠ .select cs b) {K : Act → World → Prop} {a : Act}
    (hy : YieldsS P ops S oi v a) (h : wpOpN P ops j K (a.put oi.dst v) w) :
    wpOpN P ops j (fun a' w' => YieldsS P ops S oi v a' ∧ K (a'.put oi.dst v) w') a w := by
  obtain ⟨h1, h2, h3⟩ := Oper.apart_spec hap
  have keep : ∀ (b : Act), YieldsS P ops S oi v b → ∀ u, YieldsS P ops S oi v (b.put oj.dst u) := fun b hb u =>
    hb.of_same (execOp_put oi hsi b oj.dst u h3) (wanted_put oi b oj.dst u h3)
  unfold wpOpN at *
  simp only [hj] at *
  rw [wanted_put oj a oi.dst v h1] at h
  split
  · rename_i hw
    rw [if_pos hw] at h
    unfold Oper.wp at *
    rw [execOp_put oj hsj a oi.dst v h1] at h
    generalize (execOp a.eval oj).run P w = r at *
    cases r with
    | ok n w' =>
      cases n <;> simp only [Oper.upon] at h ⊢
      case value u => exact ⟨keep a hy u, by rw [← Act.put_comm a v u h2]; exact h⟩
      case skip => exact ⟨keep a hy _, by rw [← Act.put_comm a v undef h2]; exact h⟩
      case defer d =>
        refine ⟨keep _ (hy.of_same (a' := { a with defers := d :: a.defers }) rfl rfl) _, ?_⟩
        rw [← Act.put_comm _ v undef h2, put_defers a oi.dst v]
        rw [put_has] at h
        exact h
      case enter f args =>
        refine Calls.mono h fun e w'' he => ?_
        cases e with
        | returned u => exact ⟨keep a hy u, by rw [← Act.put_comm a v u h2]; exact he⟩
        | panicked c => exact he
        | outgrown => exact he
      case row row args => exact Rows.mono h fun u w'' he => ⟨keep a hy u, by rw [← Act.put_comm a v u h2]; exact he⟩
    | halt x w' => cases x <;> simp only [Oper.upon] at h ⊢
  · rename_i hw
    rw [if_neg hw] at h
    exact ⟨keep a hy _, by rw [← Act.put_comm a v undef h2]; exact h⟩

/-- What looks, in every world that meets S, may be taken first. -/
theorem wpAnyS_first {D : Act → World → Prop} {i : Nat} {oi : Oper} {v : Value} (hi : ops[i]? = some oi) (hsel : ∀ (j : Nat) (o : Oper) cs b, ops[j]? = some o → o.op ≠ .select cs b) :
    ∀ (f : Nat) (l : Array Bool) (a : Act) (w : World),
      (∀ j oj, ops[j]? = some oj → j ≠ i → l.getD j true = false → (∀ e ∈ oj.after, Region.binds .any e = true → e.on ≠ i) → oi.apart ops oj = true) →
      i ∈ Region.ready .any ops l → YieldsS P ops S oi v a → S w →
      wpAnyS P ops S D f (l.setIfInBounds i true) (a.put oi.dst v) w → wpAnyS P ops S D (f + 1) l a w := by
  intro f
  induction f with
  | zero =>
    intro l a w _ hr hy hS H
    refine ⟨fun h => (by rw [h] at hr; cases hr), fun j hj => ?_⟩
    by_cases hji : j = i
    · subst hji; exact hy.wpOpN hi hS ⟨hS, H⟩
    · have := ready_mono hj hji
      rw [H.1] at this
      cases this
  | succ f ih =>
    intro l a w hfree hr hy hS H
    refine ⟨fun h => (by rw [h] at hr; cases hr), fun j hj => ?_⟩
    by_cases hji : j = i
    · subst hji; exact hy.wpOpN hi hS ⟨hS, H⟩
    · have h1 := H.2 j (ready_mono hj hji)
      obtain ⟨hjun, oj, hoj, hall⟩ := mem_ready.1 hj
      have hnot : ∀ e ∈ oj.after, Region.binds .any e = true → e.on ≠ i := fun e he hb heq => by
        have h1 := hall e he hb
        have h0 := (mem_ready.1 hr).1
        rw [heq, getD_un h0] at h1
        cases h1
      have h2 := wpOpN_putS hoj (hfree j oj hoj hji hjun hnot) (fun cs b => hsel i oi cs b hi) (fun cs b => hsel j oj cs b hoj) hy h1
      have hfree' : ∀ k ok, ops[k]? = some ok → k ≠ i → (l.setIfInBounds j true).getD k true = false →
          (∀ e ∈ ok.after, Region.binds .any e = true → e.on ≠ i) → oi.apart ops ok = true := fun k ok hk hki hun hno => by
        refine hfree k ok hk hki ?_ hno
        by_cases hjk : j = k
        · subst hjk; exact hjun
        · rw [getD_set_ne true hjk] at hun; exact hun
      refine wpOpN_mono (fun a' w' h3 => ⟨h3.2.1, ih (l.setIfInBounds j true) a' w' hfree' (ready_mono hr (Ne.symm hji)) h3.1 h3.2.1 ?_⟩) h2
      rw [Array.setIfInBounds_comm _ _ hji]
      exact h3.2.2

end

theorem put_tmps {a : Act} {d : Option Tmp} {v : Value} {t : Nat} (h : d ≠ some t) : (a.put d v).tmps[t]? = a.tmps[t]? := by
  cases d with
  | none => rfl
  | some x =>
    show (a.tmps.setIfInBounds x v)[t]? = _
    rw [Array.getElem?_setIfInBounds_ne (fun e => h (by rw [e]))]

section
variable {P : Program} {ops : Array Oper}

/-- What an operation does not fill stands. -/
theorem wpOpN_keep {i : Nat} {ts : List Nat} (hd : ∀ o ∈ ops, ∀ t ∈ ts, o.dst ≠ some t) {K : Act → World → Prop} {a : Act} {w : World} (h : wpOpN P ops i K a w) :
    wpOpN P ops i (fun a' w' => K a' w' ∧ ∀ t ∈ ts, a'.tmps[t]? = a.tmps[t]?) a w := by
  unfold wpOpN at *
  split
  · rename_i ho; simp only [ho] at h; exact ⟨h, fun _ _ => rfl⟩
  · rename_i o ho
    simp only [ho] at h
    have hm : ∀ t ∈ ts, o.dst ≠ some t := hd o (Array.mem_of_getElem? ho)
    split
    · rename_i hw
      rw [if_pos hw] at h
      unfold Oper.wp at *
      generalize (execOp a.eval o).run P w = r at *
      cases r with
      | ok n w' =>
        cases n <;> simp only [Oper.upon] at h ⊢
        case value u => exact ⟨h, fun t ht => put_tmps (hm t ht)⟩
        case skip => exact ⟨h, fun t ht => put_tmps (hm t ht)⟩
        case defer d => exact ⟨h, fun t ht => put_tmps (hm t ht)⟩
        case enter f args =>
          refine Calls.mono h fun e w'' he => ?_
          cases e with
          | returned u => exact ⟨he, fun t ht => put_tmps (hm t ht)⟩
          | panicked c => exact he
          | outgrown => exact he
        case row row args => exact Rows.mono h fun u w'' he => ⟨he, fun t ht => put_tmps (hm t ht)⟩
      | halt x w' => cases x <;> simp only [Oper.upon] at h ⊢
    · rename_i hw
      rw [if_neg hw] at h
      exact ⟨h, fun t ht => put_tmps (hm t ht)⟩
end

section
variable {C : Ctx} {ops : Array Oper} {K : KT} {σ σ0 : SS} {a a0 : Act} {w : World} {ts : List Nat}

/-- What stands throughout a region. -/
structure Stands (C : Ctx) (σ0 : SS) (ts : List Nat) (a0 : Act) (w : World) : Prop where
  box : ∀ t ∈ ts, ∀ k g, look σ0.fr t = some (.ref k []) → look σ0.pv k = some (.box g) → ∃ b e, a0.tmps[t]? = some (.pointer (some ⟨b, 0, none⟩)) ∧ w.heap[b]? = some (.cells g.flat.toArray e (0, 0))
  m : σ0.m.le w
  u0 : C.u0.le w
  ph : ∀ u ∈ σ0.ph, u.le w

theorem heldOk_at : ∀ {ts : List Nat}, heldOk σ0 σ ts → ∀ t ∈ ts, ∀ k, look σ0.fr t = some (.ref k []) → look σ.fr t = some (.ref k []) ∧ look σ.pv k = look σ0.pv k
  | t :: ts, h, u, hu, k, hk => by
    rcases List.mem_cons.1 hu with rfl | hu
    · have h1 := h.1
      rw [hk] at h1
      exact h1
    · exact heldOk_at h.2 u hu k hk

theorem heldK_mem {fr : List (Nat × SV)} {k : Nat} : ∀ {ts : List Nat}, k ∈ heldK fr ts → ∃ t ∈ ts, look fr t = some (.ref k [])
  | t :: ts, h => by
    simp only [heldK] at h
    split at h
    · rename_i j hj
      rcases List.mem_cons.1 h with rfl | h
      · exact ⟨t, by simp, hj⟩
      · obtain ⟨u, hu, e⟩ := heldK_mem h
        exact ⟨u, by simp [hu], e⟩
    · obtain ⟨u, hu, e⟩ := heldK_mem h
      exact ⟨u, by simp [hu], e⟩

theorem stands_of (hR : Rel C σ a w) (hh : heldOk σ0 σ ts) (hM : HeldM σ0.m σ0.ph σ.m σ.ph) (ha : ∀ t ∈ ts, a.tmps[t]? = a0.tmps[t]?) : Stands C σ0 ts a0 w := by
  obtain ⟨loc, hF, hH⟩ := hR
  refine ⟨fun t ht k g hk hg => ?_, fun b o hb => hH.mle b o (hM.m b o hb), hH.u0le, fun u hu => (hH.phs u (hM.ph u hu)).1⟩
  obtain ⟨h1, h2⟩ := heldOk_at hh t ht k hk
  obtain ⟨v, hv, g', b, c, y, e1, e2, e3, e4⟩ := hF.slots t _ h1
  rw [h2, hg] at e1
  obtain rfl : g = g' := by simpa using e1
  obtain ⟨_, b', c', e, e5, e6⟩ := hH.pvs k _ (h2.trans hg)
  rw [e2] at e5
  obtain ⟨rfl, rfl⟩ : b = b' ∧ c = c' := by simpa using e5
  exact ⟨b, e, by rw [← ha t ht, hv, e4, show g.offs [] = 0 by cases g <;> rfl], e6⟩

theorem isLd_inv {P : Program} {o : Oper} (h : isLd (cOp P o) = true) : ∃ t d i x y, o.op = .load t x ∧ P.underlying t = some d ∧ P.info? t = some i ∧ cOpd x = some y ∧ cOp P o = .ld y i.size (agD d) := by
  unfold cOp at h ⊢
  cases hc : cOp? P o with
  | none => rw [hc] at h; cases h
  | some ro =>
    rw [hc] at h
    simp only [Option.getD_some] at h ⊢
    unfold cOp? at hc
    repeat' (split at hc)
    all_goals first
      | (cases hc; done)
      | (simp only [Option.map_eq_some_iff] at hc; obtain ⟨_, _, rfl⟩ := hc; cases h; done)
      | (simp only [Option.some.injEq] at hc; subst hc; cases h; done)
      | (rename_i d i x hd hi hx; simp only [Option.some.injEq] at hc; subst hc; exact ⟨_, d, i, _, x, by assumption, hd, hi, hx, rfl⟩)

/-- A load of what stands. -/
theorem ldH_run {o : Oper} {t : TypeId} {d : TypeDesc} {i : TypeInfo} {x : Operand} {y : Opd} (ho : o.op = .load t x) (ht : C.P.underlying t = some d) (hi : C.P.info? t = some i) (hx : cOpd x = some y) (hd : ∀ t, o.dst = some t → t < C.N)
    (hw : Region.wanted o (yielded ops a.tmps) = true) (hh : heldOk σ0 σ ts) (ha : ∀ t ∈ ts, a.tmps[t]? = a0.tmps[t]?) (hR : Rel C σ a w) (h : ldH C σ0 ts y i.size (agD d) o.dst K σ) :
    ∃ v τ, YieldsS C.P ops (Stands C σ0 ts a0) o v a ∧ K τ ∧ Rel C τ (a.put o.dst v) w := by
  obtain ⟨loc, hF, hH⟩ := hR
  have fin : ∀ (g : GV), g.ok → g.fits i.size (agD d) = true → K (σ.put o.dst (.g g)) → ∀ b q, evO a y = .pointer (some ⟨b, q, none⟩) → (∀ w, Stands C σ0 ts a0 w → ∃ cs e fz, w.heap[b]? = some (.cells cs e fz) ∧ RowAt cs q g.flat) →
      ∃ v τ, YieldsS C.P ops (Stands C σ0 ts a0) o v a ∧ K τ ∧ Rel C τ (a.put o.dst v) w := by
    intro g hok hfit hK b q hp hc
    obtain ⟨q1, q2, q3⟩ := σ.put_pv o.dst (.g g)
    refine ⟨g.val, _, .inl ⟨hw, fun w' hS => ?_⟩, hK, loc, by rw [q1, q2]; exact hF.put hd rfl ⟨hok, rfl⟩, by rw [q1, q2, q3]; exact hH⟩
    obtain ⟨cs, e, fz, hb, hat⟩ := hc w' hS
    have he : execOp a.eval o = (do pure (.value (← Instr.loadAt t (.pointer (some ⟨b, q, none⟩)))) : Sem Next) := by
      simp only [execOp, ho, cOpd_eval hx a, hp]
    rw [he]
    refine run_andThen_value ?_
    simp only [Instr.loadAt, Instr.sureAddr, Sem.run_bind, Sem.run_pure, Result.andThen_ok]
    refine run_loadVar' ht hi hok hfit b _ w' fun j v hj => ?_
    rw [cell_of hb]
    exact hat j v hj
  unfold ldH at h
  split at h
  · rename_i k p hv
    obtain ⟨hk, h⟩ := h
    split at h
    · rename_i g hg
      obtain ⟨hfit, hK⟩ := h
      obtain ⟨u, hu, huk⟩ := heldK_mem (by simpa using hk)
      obtain ⟨f1, f2⟩ := heldOk_at hh u hu k huk
      obtain ⟨g', b, c, r, e1, e2, e3, e4⟩ := hF.ev rfl hv
      rw [f2, hg] at e1
      obtain rfl : g = g' := by simpa using e1
      obtain ⟨v1, hv1, g2, b2, c2, y2, d1, d2, d3, d4⟩ := hF.slots u _ f1
      rw [e2] at d2
      obtain ⟨rfl, rfl⟩ : b = b2 ∧ c = c2 := by simpa using d2
      rw [f2, hg] at d1
      obtain rfl : g = g2 := by simpa using d1
      have hok := (hH.pvs k _ (f2.trans hg)).1
      rw [GV.getT_of g p r e3] at hfit hK
      refine fin r (GV.get_at g p r hok e3).1 hfit hK b (g.offs p) e4 fun w' hS => ?_
      obtain ⟨b', e, s1, s2⟩ := hS.box u hu k g huk hg
      rw [← ha u hu, hv1, d4] at s1
      have hbb : b = b' := by
        have := Option.some.inj s1
        injection this with this
        have := Option.some.inj this
        injection this
      subst hbb
      exact ⟨_, e, _, s2, fun j v hj => by simpa using GV.get_cells hok e3 j v hj⟩
    · exact h.elim
  · rename_i b q hv
    obtain ⟨g, hs, hfit, hK⟩ := h
    obtain ⟨hok, cs, e, fz, hm, hat⟩ := hs
    refine fin g hok hfit hK b q (hF.ev rfl hv).s fun w' hS => ⟨cs, e, fz, ?_, hat⟩
    rcases hm with hm | ⟨u, hu, hm⟩ | hm
    · exact hS.m b _ hm
    · exact hS.ph u hu b _ hm
    · exact hS.u0 b _ hm
  · exact h.elim

theorem first_run {i : Nat} {o : Oper} (hi : ops[i]? = some o) (hd : dstOk C.N o = true) (hk : guardOk ops o = true) (hp : isLd (cOp C.P o) = true) (hh : heldOk σ0 σ ts) (hts : ∀ o ∈ ops, ∀ t ∈ ts, o.dst ≠ some t)
    (ha : ∀ t ∈ ts, a.tmps[t]? = a0.tmps[t]?) (hR : Rel C σ a w) (h : vcFirst C σ0 ts (segOf C.P ops i) K σ) : ∃ v τ, YieldsS C.P ops (Stands C σ0 ts a0) o v a ∧ K τ ∧ Rel C τ (a.put o.dst v) w := by
  have hd' : ∀ t, o.dst = some t → t < C.N := fun t ht => by simpa [dstOk, ht] using hd
  obtain ⟨ty, d, inf, x, y, ho, hu, hinf, hx, hc⟩ := isLd_inv hp
  have skip : ∀ σ, Rel C σ a w → Region.wanted o (yielded ops a.tmps) = false → K (σ.put o.dst .no) → ∃ v τ, YieldsS C.P ops (Stands C σ0 ts a0) o v a ∧ K τ ∧ Rel C τ (a.put o.dst v) w := by
    rintro σ ⟨loc, hF, hH⟩ hw hK
    obtain ⟨q1, q2, q3⟩ := σ.put_pv o.dst .no
    exact ⟨undef, _, .inr ⟨hw, rfl⟩, hK, loc, by rw [q1, q2]; exact hF.put hd' rfl (x := .no) (v := undef) rfl, by rw [q1, q2, q3]; exact hH⟩
  unfold segOf at h
  simp only [hi, vcFirst, hc] at h
  cases hg : gOf ops o with
  | none =>
    rw [hg] at h
    have hw : Region.wanted o (yielded ops a.tmps) = true := by
      unfold gOf at hg; unfold Region.wanted
      cases hgg : o.guard with
      | none => rfl
      | some x => simp [hgg] at hg
    exact ldH_run ho hu hinf hx hd' hw hh ha hR h
  | some gt =>
    obtain ⟨t, want⟩ := gt
    rw [hg] at h
    have hwant : Region.wanted o (yielded ops a.tmps) = (match a.tmps[t]? with | some (.bool b) => b == want | _ => false) := by
      unfold gOf at hg; unfold guardOk at hk; unfold Region.wanted
      cases hgg : o.guard with
      | none => simp [hgg] at hg
      | some x =>
        obtain ⟨j, v⟩ := x
        simp only [hgg, Option.map_some, Option.some.injEq, Prod.mk.injEq] at hg
        simp only [hgg] at hk
        cases hdd : (ops[j]?).bind (·.dst) with
        | none => simp [hdd] at hk
        | some t' =>
          simp only [hdd, Option.getD_some] at hg hk
          obtain ⟨rfl, rfl⟩ := hg
          simp only [yielded, hdd, Option.bind_some]
          cases a.tmps[t']? with
          | none => rfl
          | some u => cases u <;> first | rfl | (rename_i b; cases b <;> cases v <;> rfl)
    simp only [brB] at h
    split at h
    · rename_i b hl
      have hR' := hR
      obtain ⟨loc, hF, hH⟩ := hR'
      obtain ⟨v, hv, hs⟩ := hF.slots t _ hl
      have hvb : v = .bool b := hs.2
      subst hvb
      have hre : ∀ c, c = b → Rel C (σ.put (some t) (.g (.s (.bool c)))) a w := fun c hc => ⟨loc, ⟨hF.defers, hF.size, fun u y hy => by
        rw [look_put] at hy
        by_cases hu : u = t
        · simp only [hu, if_true, Option.some.injEq] at hy
          subst hy; subst hu; subst hc
          exact ⟨.bool c, hv, rfl, rfl⟩
        · simp only [hu, if_false] at hy
          exact hF.slots u y hy⟩, hH⟩
      have hho : ∀ c, heldOk σ0 (σ.put (some t) (.g (.s (.bool c)))) ts := by
        intro c
        have key : ∀ {l : List Nat}, heldOk σ0 σ l → heldOk σ0 (σ.put (some t) (.g (.s (.bool c)))) l := by
          intro l
          induction l with
          | nil => intro _; trivial
          | cons u l ih =>
            intro hl2
            refine ⟨?_, ih hl2.2⟩
            have h1 := hl2.1
            split at h1
            · rename_i k hk0
              refine ⟨?_, h1.2⟩
              rw [look_put]
              by_cases hut : u = t
              · subst hut; rw [h1.1] at hl; cases hl
              · simp only [hut, if_false]; exact h1.1
            · trivial
        exact key hh
      by_cases hb : b = want
      · exact ldH_run ho hu hinf hx hd' (by rw [hwant, hv]; simp [hb]) (hho want) ha (hre want hb.symm) (h.1 hb)
      · have hb' : b = !want := by cases b <;> cases want <;> simp_all
        exact skip _ (hre (!want) hb'.symm) (by rw [hwant, hv]; simp [hb']) (h.2 hb')
    · rename_i hl
      have hR' := hR
      obtain ⟨loc, hF, hH⟩ := hR'
      obtain ⟨v, hv, hs⟩ := hF.slots t _ hl
      have hvu : v = undef := hs
      exact skip σ hR (by rw [hwant, hv, hvu]; rfl) h
    · exact h.elim

theorem oh_strip {K : KT} : ∀ (t : OT) (σ : SS), vcOTH C K ts σ0 t σ → heldOk σ0 σ ts → Rel C σ a w → ∃ t' τ, erO t' = erO t ∧ (∀ u, t' ≠ .gh u) ∧ vcOTH C K ts σ0 t' τ ∧ heldOk σ0 τ ts ∧ Rel C τ a w
  | .gh u, σ, h, hh, hR => by
    obtain ⟨τ, hR', _, hh', h'⟩ := (show ghC C (fun σ' => HeldM σ0.m σ0.ph σ'.m σ'.ph ∧ heldOk σ0 σ' ts ∧ vcOTH C K ts σ0 u σ') σ from h).h a w hR
    exact oh_strip u τ h' hh' hR'
  | .done, σ, h, hh, hR => ⟨.done, σ, rfl, by simp, h, hh, hR⟩
  | .bad, σ, h, hh, hR => ⟨.bad, σ, rfl, by simp, h, hh, hR⟩
  | .op s t, σ, h, hh, hR => ⟨.op s t, σ, rfl, by simp, h, hh, hR⟩
  | .first s t, σ, h, hh, hR => ⟨.first s t, σ, rfl, by simp, h, hh, hR⟩
  | .or s t, σ, h, hh, hR => ⟨.or s t, σ, rfl, by simp, h, hh, hR⟩
  | .held s t, σ, h, hh, hR => ⟨.held s t, σ, rfl, by simp, h, hh, hR⟩
  | .heldF s t, σ, h, hh, hR => ⟨.heldF s t, σ, rfl, by simp, h, hh, hR⟩
theorem orLH_all {K : KT} {f : Nat → OT} : ∀ (l : List Nat) (t : OT) (σ : SS), erO t = orL (l.map f) → vcOTH C K ts σ0 t σ → heldOk σ0 σ ts → Rel C σ a w → ∀ i ∈ l, ∃ u τ, erO u = f i ∧ vcOTH C K ts σ0 u τ ∧ heldOk σ0 τ ts ∧ Rel C τ a w
  | [], _, _, _, _, _, _, i, hi => by cases hi
  | [x], t, σ, he, h, hh, hR, i, hi => by
    simp at hi; subst hi; exact ⟨t, σ, he, h, hh, hR⟩
  | x :: y :: r, t, σ, he, h, hh, hR, i, hi => by
    obtain ⟨t1, τ, e1, hn, h1, hh1, hR1⟩ := oh_strip t σ h hh hR
    obtain ⟨p, q, rfl, hp, hq⟩ := erO_or (e1.trans he) hn
    have h' : vcOTH C K ts σ0 p τ ∧ vcOTH C K ts σ0 q τ := h1
    rcases List.mem_cons.1 hi with rfl | hi
    · exact ⟨p, τ, hp, h'.1, hh1, hR1⟩
    · exact orLH_all (y :: r) q τ hq h'.2 hh1 hR1 i hi

theorem otH_sound (hns : Region.noSelect ops = true) (hd : ∀ o ∈ ops, dstOk C.N o = true) (hg : ∀ o ∈ ops, guardOk ops o = true) (hts : ∀ o ∈ ops, ∀ t ∈ ts, o.dst ≠ some t) : ∀ (f : Nat) (l : Array Bool) (t : OT) (σ : SS) (a : Act) (w : World),
    otOfH C.P ops f l = erO t → vcOTH C K ts σ0 t σ → heldOk σ0 σ ts → (∀ t ∈ ts, a.tmps[t]? = a0.tmps[t]?) → Stands C σ0 ts a0 w → Rel C σ a w → wpAnyS C.P ops (Stands C σ0 ts a0) (liftK C K) f l a w := by
  have hsel := Region.noSelect_spec hns
  intro f
  induction f with
  | zero =>
    intro l t0 σ1 a w he0 h0 hh1 ha hS hR1
    obtain ⟨t, σ, e1, hn, h, hh, hR⟩ := oh_strip t0 σ1 h0 hh1 hR1
    have he := e1.trans he0.symm
    simp only [otOfH] at he
    cases hr : (Region.ready .any ops l).isEmpty with
    | true => rw [hr] at he; obtain rfl := erO_done he hn; exact ⟨by simpa using hr, σ, h, hR⟩
    | false => rw [hr] at he; obtain rfl := erO_bad he hn; exact h.elim
  | succ f ih =>
    intro l t0 σ1 a w he0 h0 hh1 ha hS hR1
    obtain ⟨t, σ, e1, hn, h, hh, hR⟩ := oh_strip t0 σ1 h0 hh1 hR1
    have he := e1.trans he0.symm
    simp only [otOfH] at he
    cases hr : (Region.ready .any ops l).isEmpty with
    | true =>
      rw [hr] at he
      obtain rfl := erO_done he hn
      have hnil : Region.ready .any ops l = [] := by simpa using hr
      exact ⟨fun _ => ⟨σ, h, hR⟩, fun i hi => by rw [hnil] at hi; cases hi⟩
    | false =>
      rw [hr] at he
      simp only [cond_false] at he
      have hne : Region.ready .any ops l ≠ [] := fun e => by rw [e] at hr; cases hr
      split at he
      · rename_i i hf
        have hi := List.mem_of_find?_eq_some hf
        have hp := List.find?_some hf
        simp only [Bool.and_eq_true] at hp
        cases ho : ops[i]? with
        | none => rw [ho] at hp; cases hp.1
        | some o =>
          rw [ho] at hp
          have hmem : o ∈ ops := Array.mem_of_getElem? ho
          obtain ⟨u, rfl, hu⟩ := erO_op he hn
          obtain ⟨v, τ, hy, hK, hR'⟩ := pure_run ho (hd o hmem) (hg o hmem) hp.1 hR h
          exact wpAnyS_first ho hsel f l a w (Region.free_spec ho hp.2) hi hy.toS hS (ih _ u τ _ _ hu.symm hK.2.2 hK.2.1 (fun t ht => (put_tmps (hts o hmem t ht)).trans (ha t ht)) hS hR')
      · split at he
        · rename_i i hf
          have hi := List.mem_of_find?_eq_some hf
          have hp := List.find?_some hf
          simp only [Bool.and_eq_true] at hp
          cases ho : ops[i]? with
          | none => rw [ho] at hp; cases hp.1
          | some o =>
            rw [ho] at hp
            have hmem : o ∈ ops := Array.mem_of_getElem? ho
            obtain ⟨u, rfl, hu⟩ := erO_first he hn
            obtain ⟨v, τ, hy, hK, hR'⟩ := first_run ho (hd o hmem) (hg o hmem) hp.1 hh hts ha hR h
            exact wpAnyS_first ho hsel f l a w (Region.free_spec ho hp.2) hi hy hS (ih _ u τ _ _ hu.symm hK.2 hK.1 (fun t ht => (put_tmps (hts o hmem t ht)).trans (ha t ht)) hS hR')
        · refine ⟨fun e => absurd e hne, fun i hi => ?_⟩
          obtain ⟨u0, τ0, hu0, h1, hh2, hR2⟩ := orLH_all _ t σ he h hh hR i hi
          obtain ⟨u1, τ1, e2, hn2, h2, hh3, hR3⟩ := oh_strip u0 τ0 h1 hh2 hR2
          obtain ⟨u, rfl, hu⟩ := erO_op (e2.trans hu0) hn2
          obtain ⟨_, o, ho, _⟩ := mem_ready.1 hi
          have hmem : o ∈ ops := Array.mem_of_getElem? ho
          refine wpOpN_mono (fun a' w' hx => ?_) (wpOpN_keep hts (one_run ho (hd o hmem) (hg o hmem) hR3 h2))
          obtain ⟨⟨τ, ⟨hM, hh', hK⟩, hR'⟩, ht'⟩ := hx
          have ha' : ∀ t ∈ ts, a'.tmps[t]? = a0.tmps[t]? := fun t ht => (ht' t ht).trans (ha t ht)
          have hS' := stands_of hR' hh' hM ha'
          exact ⟨hS', ih _ u τ a' w' hu.symm hK hh' ha' hS' hR'⟩

end
end Go.Proofs.YtmjiojflncffeaaGreat.Vc

/- Soundness: regions, code. -/
set_option linter.unusedVariables false
set_option linter.unusedSimpArgs false
namespace Go.Proofs.YtmjiojflncffeaaGreat.Vc
open Go

theorem grp_flat (ops : Array Oper) : ∀ l, (grp ops l).flatMap (·.2) = l
  | [] => rfl
  | o :: r => by
    have ih := grp_flat ops r
    simp only [grp]
    split
    · rename_i h l s e
      rw [e] at ih
      split <;> simpa using ih
    · rename_i e
      rw [e] at ih
      simpa using ih

theorem grp_mem (ops : Array Oper) : ∀ l, ∀ x ∈ grp ops l, ∀ o ∈ x.2, gOf ops o = x.1 ∧ o ∈ l
  | [], x, h, _, _ => by simp [grp] at h
  | o :: r, x, h, q, hq => by
    have ih := grp_mem ops r
    simp only [grp] at h
    split at h
    · rename_i g l s e
      rw [e] at ih
      split at h
      · rename_i hg
        simp only [List.mem_cons] at h
        rcases h with rfl | h
        · simp only [List.mem_cons] at hq
          rcases hq with rfl | hq
          · exact ⟨rfl, by simp⟩
          · obtain ⟨h1, h2⟩ := ih (g, l) (by simp) q hq
            exact ⟨by rw [h1]; exact hg, by simp [h2]⟩
        · obtain ⟨h1, h2⟩ := ih x (by simp [h]) q hq
          exact ⟨h1, by simp [h2]⟩
      · simp only [List.mem_cons] at h
        rcases h with rfl | h
        · simp at hq; subst hq; exact ⟨rfl, by simp⟩
        · obtain ⟨h1, h2⟩ := ih x (by simpa using h) q hq
          exact ⟨h1, by simp [h2]⟩
    · simp at h; subst h
      simp at hq; subst hq; exact ⟨rfl, by simp⟩

section
variable {C : Ctx} {σ : SS} {a : Act} {w : World} {K : KT} {Q : Exit → Act → World → Prop} {ops : Array Oper}

theorem dstOk_spec {N : Nat} {o : Oper} (h : dstOk N o = true) : ∀ t, o.dst = some t → t < N := by
  intro t ht
  simpa [dstOk, ht] using h

/-- What an operation's guard looks at. -/
theorem wanted_none {o : Oper} (h : gOf ops o = none) (f : Nat → Option Bool) : Region.wanted o f = true := by
  unfold gOf at h
  unfold Region.wanted
  cases hg : o.guard with
  | none => rfl
  | some x => simp [hg] at h

theorem wanted_some {o : Oper} {t : Nat} {want : Bool} (h : gOf ops o = some (t, want)) (hk : guardOk ops o = true) (tmps : Array Value) :
    Region.wanted o (yielded ops tmps) = (match tmps[t]? with | some (.bool b) => b == want | _ => false) ∧ o.dst ≠ some t := by
  unfold gOf at h
  unfold guardOk at hk
  unfold Region.wanted
  cases hg : o.guard with
  | none => simp [hg] at h
  | some x =>
    obtain ⟨j, v⟩ := x
    simp only [hg, Option.map_some, Option.some.injEq, Prod.mk.injEq] at h
    simp only [hg] at hk
    cases hd : (ops[j]?).bind (·.dst) with
    | none => simp [hd] at hk
    | some t' =>
      simp only [hd, Option.getD_some] at h hk
      obtain ⟨rfl, rfl⟩ := h
      refine ⟨?_, by simpa using hk⟩
      simp only [yielded, hd, Option.bind_some]
      cases tmps[t']? with
      | none => rfl
      | some u => cases u <;> first | rfl | (rename_i b; cases b <;> cases v <;> rfl)

theorem Rel.reput (h : Rel C σ a w) {t : Nat} {x : SV} (hx : ∀ loc, FR loc C.N σ.fr σ.pv σ.ph a → ∃ v, a.tmps[t]? = some v ∧ SVr loc σ.pv x v) : Rel C (σ.put (some t) x) a w := by
  obtain ⟨loc, hF, hH⟩ := h
  refine ⟨loc, ⟨hF.defers, hF.size, fun u y hy => ?_⟩, hH⟩
  rw [look_put] at hy
  by_cases hu : u = t
  · simp only [hu, if_true, Option.some.injEq] at hy
    subst hy; subst hu
    exact hx loc hF
  · simp only [hu, if_false] at hy
    exact hF.slots u y hy

def ghLess (r : List (Option Nat × RO)) : List (Option Nat × RO) := r.filter fun x => !x.2.isGh

theorem isGh_eq {o : RO} (h : o.isGh = true) : o = .gh := by
  cases o <;> first | rfl | (cases h; done)

/-- A group of operations that is carried out. -/
theorem group_run {g : Option (Nat × Bool)} {rest : List Oper} : ∀ (r : List (Option Nat × RO)) (lg : List Oper) (σ : SS) (a : Act) (w : World), (lg.map fun o => (o.dst, cOp C.P o)) = ghLess r → (∀ o ∈ lg, gOf ops o = g ∧ dstOk C.N o = true ∧ guardOk ops o = true) →
    (∀ t b, g = some (t, b) → a.tmps[t]? = some (.bool b)) → Rel C σ a w → vcSegOps C r K σ →
    (∀ σ a w, K σ → Rel C σ a w → wpList C.P ops Q rest a w) → wpList C.P ops Q (lg ++ rest) a w
  | [], lg, σ, a, w, he, _, _, hR, h, hr => by
    have : lg = [] := by simpa [ghLess] using he
    subst this
    exact hr σ a w h hR
  | (d, ro) :: r, lg, σ, a, w, he, hg, ht, hR, h, hr => by
    cases hgh : ro.isGh with
    | true =>
      have := isGh_eq hgh
      subst this
      obtain ⟨τ, hR', h'⟩ := (show ghC C (vcSegOps C r K) σ from h).h a w hR
      exact group_run r lg τ a w (by simpa [ghLess, RO.isGh] using he) hg ht hR' h' hr
    | false =>
      cases lg with
      | nil => simp [ghLess, hgh] at he
      | cons o lg =>
        simp only [ghLess, List.filter_cons, hgh, Bool.not_false, if_true, List.map_cons, List.cons.injEq, Prod.mk.injEq] at he
        obtain ⟨⟨rfl, rfl⟩, he⟩ := he
        obtain ⟨hgo, hd, hk⟩ := hg o (by simp)
        have hw : Region.wanted o (yielded ops a.tmps) = true ∧ ∀ t b, g = some (t, b) → o.dst ≠ some t := by
          cases g with
          | none => exact ⟨wanted_none hgo _, fun t b e => by cases e⟩
          | some x =>
            obtain ⟨t, b⟩ := x
            obtain ⟨h1, h2⟩ := wanted_some hgo hk a.tmps
            refine ⟨by rw [h1, ht t b rfl]; simp, fun t' b' e => by cases e; exact h2⟩
        simp only [List.cons_append, wpList]
        rw [if_pos hw.1]
        left
        simp only [vcSegOps] at h
        have h1 := Oper.wp_put (vcOp_sound (Q := Q) (dstOk_spec hd) h hR)
        refine Oper.wp_mono (fun a' w' hq => ?_) h1
        obtain ⟨⟨σ', hK, hR'⟩, hs⟩ := hq
        exact group_run r lg σ' a' w' he (fun o ho => hg o (by simp [ho])) (fun t b e => by rw [hs t (hw.2 t b e)]; exact ht t b e) hR' hK hr

/-- A group of operations that is passed over. -/
theorem group_skip {t : Nat} {want : Bool} {rest : List Oper} : ∀ (r : List (Option Nat × RO)) (lg : List Oper) (σ : SS) (a : Act) (w : World), (lg.map fun o => (o.dst, cOp C.P o)) = ghLess r → (∀ o ∈ lg, gOf ops o = some (t, want) ∧ dstOk C.N o = true ∧ guardOk ops o = true) →
    (∀ b, a.tmps[t]? = some (.bool b) → b = !want) → Rel C σ a w → K (skipAll r σ) →
    (∀ σ a w, K σ → Rel C σ a w → wpList C.P ops Q rest a w) → wpList C.P ops Q (lg ++ rest) a w
  | [], lg, σ, a, w, he, _, _, hR, h, hr => by
    have : lg = [] := by simpa [ghLess] using he
    subst this
    exact hr σ a w h hR
  | (d, ro) :: r, lg, σ, a, w, he, hg, ht, hR, h, hr => by
    cases hgh : ro.isGh with
    | true =>
      simp only [skipAll, hgh, cond_true] at h
      exact group_skip r lg σ a w (by simpa [ghLess, hgh] using he) hg ht hR h hr
    | false =>
      cases lg with
      | nil => simp [ghLess, hgh] at he
      | cons o lg =>
        simp only [ghLess, List.filter_cons, hgh, Bool.not_false, if_true, List.map_cons, List.cons.injEq, Prod.mk.injEq] at he
        obtain ⟨⟨rfl, rfl⟩, he⟩ := he
        obtain ⟨hgo, hd, hk⟩ := hg o (by simp)
        obtain ⟨h1, h2⟩ := wanted_some hgo hk a.tmps
        have hw : Region.wanted o (yielded ops a.tmps) = false := by
          rw [h1]
          cases hv : a.tmps[t]? with
          | none => rfl
          | some v =>
            cases v <;> first | rfl | skip
            rename_i b
            rw [ht b hv]
            cases want <;> rfl
        simp only [List.cons_append, wpList]
        rw [hw]
        simp only [Bool.false_eq_true, if_false]
        simp only [skipAll, hgh, cond_false] at h
        refine group_skip r lg (σ.put o.dst .no) (a.put o.dst undef) w he (fun o ho => hg o (by simp [ho])) (fun b hb => ht b ?_) ?_ h hr
        · rw [← hb]
          cases hd' : o.dst with
          | none => rfl
          | some d => simp only [Act.put]; rw [Array.getElem?_setIfInBounds_ne (fun e => h2 (by rw [hd', e]))]
        · obtain ⟨loc, hF, hH⟩ := hR
          obtain ⟨q1, q2, q3⟩ := σ.put_pv o.dst .no
          exact ⟨loc, by rw [q1, q2]; exact hF.put (dstOk_spec hd) rfl (x := .no) (v := undef) rfl, by rw [q1, q2, q3]; exact hH⟩

theorem segs_sound (hQ : ∀ σ a w, K σ → Rel C σ a w → Q .normal a w) : ∀ (ss : List Seg) (gs : List (Option (Nat × Bool) × List Oper)) (σ : SS) (a : Act) (w : World), gs.map (cSeg C.P) = ss.map erSeg → (∀ x ∈ gs, ∀ o ∈ x.2, gOf ops o = x.1 ∧ dstOk C.N o = true ∧ guardOk ops o = true) →
    Rel C σ a w → vcSegs C ss K σ → wpList C.P ops Q (gs.flatMap (·.2)) a w
  | [], gs, σ, a, w, he, _, hR, h => by
    have : gs = [] := by simpa using he
    subst this
    exact hQ σ a w h hR
  | _ :: _, [], σ, a, w, he, _, hR, h => by simp at he
  | ⟨gd, r⟩ :: ss, (g, lg) :: gs, σ, a, w, he, hg, hR, h => by
    simp only [List.map_cons, List.cons.injEq, cSeg, erSeg, Seg.mk.injEq] at he
    obtain ⟨⟨rfl, he1⟩, he2⟩ := he
    have hgs := fun x (hx : x ∈ gs) => hg x (List.mem_cons_of_mem _ hx)
    have hlg := hg (g, lg) (by simp)
    simp only [List.flatMap_cons]
    cases g with
    | none =>
      exact group_run r lg σ a w he1 hlg (fun t b e => by cases e) hR h fun σ' a' w' hK hR' => segs_sound hQ ss gs σ' a' w' he2 hgs hR' hK
    | some tw =>
      obtain ⟨t, want⟩ := tw
      simp only [vcSegs, brB] at h
      obtain ⟨loc, hF, hH⟩ := hR
      split at h
      · rename_i b hl
        obtain ⟨v, hv, hs⟩ := hF.slots t _ hl
        have hvb : v = .bool b := hs.2
        subst hvb
        have hre : ∀ c, c = b → Rel C (σ.put (some t) (.g (.s (.bool c)))) a w := fun c hc => Rel.reput ⟨loc, hF, hH⟩ fun loc' hF' => by
          subst hc
          exact ⟨.bool c, hv, rfl, rfl⟩
        by_cases hb : b = want
        · exact group_run r lg _ a w he1 hlg (fun t' b' e => by cases e; rw [hv, hb]) (hre want hb.symm) (h.1 hb) fun σ' a' w' hK hR' => segs_sound hQ ss gs σ' a' w' he2 hgs hR' hK
        · have hb' : b = !want := by cases b <;> cases want <;> simp_all
          exact group_skip (t := t) (want := want) r lg _ a w he1 hlg (fun b' e => by rw [hv] at e; simp at e; rw [← e]; exact hb') (hre (!want) hb'.symm) (h.2 hb') fun σ' a' w' hK hR' => segs_sound hQ ss gs σ' a' w' he2 hgs hR' hK
      · rename_i hl
        obtain ⟨v, hv, hs⟩ := hF.slots t _ hl
        have hvu : v = undef := hs
        exact group_skip (t := t) (want := want) r lg _ a w he1 hlg (fun b' e => by rw [hv, hvu] at e; simp [undef] at e) ⟨loc, hF, hH⟩ h fun σ' a' w' hK hR' => segs_sound hQ ss gs σ' a' w' he2 hgs hR' hK
      · exact h.elim

/-! ### Where the order is open -/
theorem put_other (a : Act) {o : Oper} {t : Nat} (h : o.dst ≠ some t) (v : Value) : (a.put o.dst v).tmps[t]? = a.tmps[t]? := by
  cases hd : o.dst with
  | none => rfl
  | some d => simp only [Act.put]; rw [Array.getElem?_setIfInBounds_ne (fun e => h (by rw [hd, e]))]

def HeapIs (pv : List (Nat × PV)) (ph : List PH) (m : PH) (σ : SS) : Prop := σ.pv = pv ∧ σ.ph = ph ∧ σ.m = m

theorem HeapIs.put {pv : List (Nat × PV)} {ph : List PH} {m : PH} (h : HeapIs pv ph m σ) (d : Option Nat) (x : SV) : HeapIs pv ph m (σ.put d x) := by
  obtain ⟨q1, q2, q3⟩ := σ.put_pv d x
  exact ⟨q1.trans h.1, q2.trans h.2.1, q3.trans h.2.2⟩

section
variable {loc : Loc} {pv : List (Nat × PV)} {ph : List PH} {m : PH} {q : Act → Prop}

theorem noRegion {P : Program} {N : Nat} {ns : List (Nat × Nat)} {id : Nat} {ops : Array Oper} {draw : Bool} {cd : Cd} (h : compR P N ns id ops draw = cd) (h1 : ∀ s k, cd ≠ .rg s k) (h2 : ∀ s t k, cd ≠ .rgq s t k) (h4 : ∀ t k, cd ≠ .rga t k) (h3 : ∀ c, cd ≠ .raw c) : False := by
  rcases compR_cases P N ns id ops draw with ⟨_, _, _, e⟩ | ⟨n, _, _, _, _, _, e⟩ | ⟨_, _, _, _, _, e⟩ | ⟨_, _, _, _, _, _, e⟩ | e
  · exact h1 _ _ (h.symm.trans e)
  · exact h2 _ _ _ (h.symm.trans e)
  · exact h4 _ _ (h.symm.trans e)
  · exact h4 _ _ (h.symm.trans e)
  · exact h3 _ (h.symm.trans e)

theorem groupQ_run (hW : ∃ w, HR C loc pv ph m w) {g : Option (Nat × Bool)} {rest : List Oper} : ∀ (lg : List Oper) (σ : SS) (a : Act), HeapIs pv ph m σ → (∀ o ∈ lg, gOf ops o = g ∧ dstOk C.N o = true ∧ guardOk ops o = true) →
    (∀ t b, g = some (t, b) → a.tmps[t]? = some (.bool b)) → FR loc C.N σ.fr pv ph a → vcqSegOps C (lg.map fun o => (o.dst, cOp C.P o)) K σ →
    (∀ σ a, HeapIs pv ph m σ → FR loc C.N σ.fr pv ph a → K σ → wpQuiet C.P ops (fun w => HR C loc pv ph m w) q rest a) → wpQuiet C.P ops (fun w => HR C loc pv ph m w) q (lg ++ rest) a := by
  intro lg
  induction lg with
  | nil => exact fun σ a hs _ _ hF h hr => hr σ a hs hF h
  | cons o lg ih =>
    intro σ a hs hg ht hF h hr
    obtain ⟨hgo, hd, hk⟩ := hg o (by simp)
    have hw : Region.wanted o (yielded ops a.tmps) = true ∧ ∀ t b, g = some (t, b) → o.dst ≠ some t := by
      cases g with
      | none => exact ⟨wanted_none hgo _, fun t b e => by cases e⟩
      | some x =>
        obtain ⟨t, b⟩ := x
        obtain ⟨h1, h2⟩ := wanted_some hgo hk a.tmps
        refine ⟨by rw [h1, ht t b rfl]; simp, fun t' b' e => by cases e; exact h2⟩
    simp only [List.cons_append, wpQuiet]
    rw [if_pos hw.1]
    simp only [List.map_cons, vcqSegOps] at h
    obtain ⟨e1, e2, e3⟩ := hs
    subst e1; subst e2; subst e3
    refine vcqOp_sound (dstOk_spec hd) h hF hW fun x v hx hK => ?_
    refine ih (σ.put o.dst x) (a.put o.dst v) (HeapIs.put ⟨rfl, rfl, rfl⟩ _ _) (fun o ho => hg o (by simp [ho])) (fun t b e => by rw [put_other a (hw.2 t b e)]; exact ht t b e) ?_ hK hr
    exact hF.put (dstOk_spec hd) rfl hx

theorem groupQ_skip {t : Nat} {want : Bool} {rest : List Oper} : ∀ (lg : List Oper) (σ : SS) (a : Act), HeapIs pv ph m σ → (∀ o ∈ lg, gOf ops o = some (t, want) ∧ dstOk C.N o = true ∧ guardOk ops o = true) →
    (∀ b, a.tmps[t]? = some (.bool b) → b = !want) → FR loc C.N σ.fr pv ph a → K (skipAll (lg.map fun o => (o.dst, cOp C.P o)) σ) →
    (∀ σ a, HeapIs pv ph m σ → FR loc C.N σ.fr pv ph a → K σ → wpQuiet C.P ops (fun w => HR C loc pv ph m w) q rest a) → wpQuiet C.P ops (fun w => HR C loc pv ph m w) q (lg ++ rest) a
  | [], σ, a, hs, _, _, hF, h, hr => hr σ a hs hF h
  | o :: lg, σ, a, hs, hg, ht, hF, h, hr => by
    obtain ⟨hgo, hd, hk⟩ := hg o (by simp)
    obtain ⟨h1, h2⟩ := wanted_some hgo hk a.tmps
    have hw : Region.wanted o (yielded ops a.tmps) = false := by
      rw [h1]
      cases hv : a.tmps[t]? with
      | none => rfl
      | some v =>
        cases v <;> first | rfl | skip
        rename_i b
        rw [ht b hv]
        cases want <;> rfl
    simp only [List.cons_append, wpQuiet]
    rw [hw]
    simp only [Bool.false_eq_true, if_false]
    simp only [List.map_cons, skipAll, cOp_noGh, cond_false] at h
    exact groupQ_skip lg (σ.put o.dst .no) (a.put o.dst undef) (hs.put _ _) (fun o ho => hg o (by simp [ho])) (fun b hb => ht b (by rw [← hb, put_other a h2])) (hF.put (dstOk_spec hd) rfl (x := .no) (v := undef) rfl) h hr

theorem segsQ_sound (hW : ∃ w, HR C loc pv ph m w) (hQ : ∀ σ a, HeapIs pv ph m σ → FR loc C.N σ.fr pv ph a → K σ → q a) : ∀ (gs : List (Option (Nat × Bool) × List Oper)) (σ : SS) (a : Act), HeapIs pv ph m σ →
    (∀ x ∈ gs, ∀ o ∈ x.2, gOf ops o = x.1 ∧ dstOk C.N o = true ∧ guardOk ops o = true) →
    FR loc C.N σ.fr pv ph a → vcqSegs C (gs.map (cSeg C.P)) K σ → wpQuiet C.P ops (fun w => HR C loc pv ph m w) q (gs.flatMap (·.2)) a
  | [], σ, a, hs, _, hF, h => hQ σ a hs hF h
  | (none, lg) :: gs, σ, a, hs, hg, hF, h => by
    simp only [List.flatMap_cons]
    exact groupQ_run hW lg σ a hs (hg (none, lg) (by simp)) (fun t b e => by cases e) hF h fun σ' a' hs' hF' hK => segsQ_sound hW hQ gs σ' a' hs' (fun x hx => hg x (by simp [hx])) hF' hK
  | (some (t, want), lg) :: gs, σ, a, hs, hg, hF, h => by
    have hgs := fun x (hx : x ∈ gs) => hg x (List.mem_cons_of_mem _ hx)
    have hlg := hg (some (t, want), lg) (by simp)
    simp only [List.flatMap_cons]
    simp only [List.map_cons, cSeg, vcqSegs, brB] at h
    split at h
    · rename_i b hl
      obtain ⟨v, hv, hsv⟩ := hF.slots t _ hl
      have hvb : v = .bool b := hsv.2
      subst hvb
      have hre : ∀ c, c = b → FR loc C.N (σ.put (some t) (.g (.s (.bool c)))).fr pv ph a := fun c hc => ⟨hF.defers, hF.size, fun u y hy => by
        rw [look_put] at hy
        by_cases hu : u = t
        · simp only [hu, if_true, Option.some.injEq] at hy
          subst hy; subst hu; subst hc
          exact ⟨.bool c, hv, rfl, rfl⟩
        · simp only [hu, if_false] at hy
          exact hF.slots u y hy⟩
      by_cases hb : b = want
      · exact groupQ_run hW lg _ a (hs.put _ _) hlg (fun t' b' e => by cases e; rw [hv, hb]) (hre want hb.symm) (h.1 hb) fun σ' a' hs' hF' hK => segsQ_sound hW hQ gs σ' a' hs' hgs hF' hK
      · have hb' : b = !want := by cases b <;> cases want <;> simp_all
        exact groupQ_skip (t := t) (want := want) lg _ a (hs.put _ _) hlg (fun b' e => by rw [hv] at e; simp at e; rw [← e]; exact hb') (hre (!want) hb'.symm) (h.2 hb') fun σ' a' hs' hF' hK => segsQ_sound hW hQ gs σ' a' hs' hgs hF' hK
    · rename_i hl
      obtain ⟨v, hv, hsv⟩ := hF.slots t _ hl
      have hvu : v = undef := hsv
      exact groupQ_skip (t := t) (want := want) lg _ a hs hlg (fun b' e => by rw [hv, hvu] at e; simp [undef] at e) hF h fun σ' a' hs' hF' hK => segsQ_sound hW hQ gs σ' a' hs' hgs hF' hK
    · exact h.elim
end

theorem HR.drew {loc : Loc} {pv : List (Nat × PV)} {ph : List PH} {m : PH} (h : HR C loc pv ph m w) : HR C loc pv ph m { w with drawn := w.drawn + 1 } :=
  ⟨h.kept, h.pvs, h.apart, h.priv, h.mle, h.mmine, h.phs⟩

theorem Ge.rel {τ : SS} (hg : Ge σ τ) (h : Rel C σ a w) : Rel C τ a w := by
  obtain ⟨loc, hF, hH⟩ := h
  refine ⟨loc, ⟨hF.defers.up hg.same, hF.size, fun t x hx => ?_⟩, ⟨hH.kept, fun k y hk => ?_, ?_, ?_, hg.m ▸ hH.mle, fun b hb => hH.mmine b (by rw [← hg.m]; exact hb), fun u hu => ?_⟩⟩
  · obtain ⟨v, hv, hr⟩ := hF.slots t x (hg.fr t x hx)
    refine ⟨v, hv, hr.weaken fun k hk => ⟨rfl, ?_⟩⟩
    obtain ⟨y, hy⟩ := Option.isSome_iff_exists.mp (hg.wf t x hx k hk)
    rw [hy, hg.pv k y hy]
  · have hp := hH.pvs k y (hg.pv k y hk)
    cases y with
    | box g => exact hp
    | row e z df xs => exact hp
    | ro z df xs =>
      refine ⟨hp.1, ?_⟩
      have hp2 := hp.2
      cases hl : loc k with
      | none => rw [hl] at hp2; exact hp2
      | some l =>
        obtain ⟨b, o, c⟩ := l
        rw [hl] at hp2
        obtain ⟨h1, hp3⟩ := hp2
        refine ⟨h1, fun hc0 => ?_⟩
        obtain ⟨u, cs, e, fz, hu, h2⟩ := hp3 hc0
        exact ⟨u, cs, e, fz, hu.imp id (hg.ros k z df xs hk u), h2⟩
  · intro k k' y y' b o c o' c' h1 h2 h3 h4
    exact hH.apart k k' y y' b o c o' c' (hg.pv _ _ h1) h2 h3 (hg.pv _ _ h4)
  · intro k y b o c h1 h2 h3
    obtain ⟨e1, e2, e3⟩ := hH.priv k y b o c (hg.pv _ _ h1) h2 h3
    exact ⟨e1, by rw [hg.m]; exact e2, fun u hu => e3 u (hg.ph u hu)⟩
  · rw [hg.m]; exact hH.phs u (hg.ph u hu)

theorem look_keepL {fr : List (Nat × SV)} : ∀ (l : List Nat) (t : Nat) (x : SV), look (keepL fr l) t = some x → look fr t = some x
  | [], t, x, h => by simp [keepL, look] at h
  | k :: l, t, x, h => by
    simp only [keepL] at h
    split at h
    · rename_i y hy
      simp only [look] at h
      split at h
      · rename_i e
        subst e
        rw [hy]; exact h
      · exact look_keepL l t x h
    · exact look_keepL l t x h

theorem Rel.keep (h : Rel C σ a w) (l : List Nat) : Rel C (σ.keep l) a w := by
  obtain ⟨loc, hF, hH⟩ := h
  exact ⟨loc, ⟨hF.defers, hF.size, fun t x hx => hF.slots t x (look_keepL l t x hx)⟩, hH⟩

theorem vc_sound (ns : List (Nat × Nat)) : ∀ (cd : Cd) (code : Code) (Q : QT) (σ : SS) (a : Act) (w : World), comp C.P C.N ns code = er cd → vc C cd Q σ → Rel C σ a w → code.wp C.P (liftQ C Q) a w := by
  intro cd
  induction cd with
  | skip =>
    intro code Q σ a w hc h hR
    cases code <;> simp only [comp, er] at hc <;> (try split at hc) <;> first | (cases hc; done) | (exact (noRegion hc (by intros; simp) (by intros; simp) (by intros; simp) (by intros; simp)).elim) | skip
    · exact wp_skip ⟨σ, h, hR⟩
    · exact wp_label ⟨σ, h, hR⟩
  | ret =>
    intro code Q σ a w hc h hR
    cases code <;> simp only [comp, er] at hc <;> (try split at hc) <;> first | (cases hc; done) | (exact (noRegion hc (by intros; simp) (by intros; simp) (by intros; simp) (by intros; simp)).elim) | skip
    exact wp_ret ⟨σ, h, hR⟩
  | exit id =>
    intro code Q σ a w hc h hR
    cases code <;> simp only [comp, er] at hc <;> (try split at hc) <;> first | (cases hc; done) | (exact (noRegion hc (by intros; simp) (by intros; simp) (by intros; simp) (by intros; simp)).elim) | skip
    cases hc
    exact wp_exit ⟨σ, h, hR⟩
  | seq x y ihx ihy =>
    intro code Q σ a w hc h hR
    cases code <;> simp only [comp, er] at hc <;> (try split at hc) <;> first | (cases hc; done) | (exact (noRegion hc (by intros; simp) (by intros; simp) (by intros; simp) (by intros; simp)).elim) | skip
    rename_i x' y'
    simp only [Cd.seq.injEq] at hc
    refine wp_seq (wp_mono (ihx x' _ σ a w hc.1 h hR) fun e a' w' hq => ?_)
    obtain ⟨σ', hq, hR'⟩ := hq
    cases e with
    | normal => exact ihy y' Q σ' a' w' hc.2 hq hR'
    | _ => exact ⟨σ', hq, hR'⟩
  | ite c x y ihx ihy =>
    intro code Q σ a w hc h hR
    cases code <;> simp only [comp, er] at hc <;> (try split at hc) <;> first | (cases hc; done) | (exact (noRegion hc (by intros; simp) (by intros; simp) (by intros; simp) (by intros; simp)).elim) | skip
    rename_i c' x' y' _ c2 hc2
    simp only [Cd.ite.injEq] at hc
    obtain ⟨rfl, h1, h2⟩ := hc
    simp only [vc, brB] at h
    split at h
    · rename_i t ht
      have hF := hR.choose_spec.1
      have hv := (hF.ev rfl ht).s
      refine wp_cond_split (t := t) (by rw [cOpd_eval hc2 a]; exact hv) (fun e => ihx x' Q σ a w h1 (h.1 e) hR) (fun e => ihy y' Q σ a w h2 (h.2 e) hR)
    · exact h.elim
  | block id x ih =>
    intro code Q σ a w hc h hR
    cases code <;> simp only [comp, er] at hc <;> (try split at hc) <;> first | (cases hc; done) | (exact (noRegion hc (by intros; simp) (by intros; simp) (by intros; simp) (by intros; simp)).elim) | skip
    rename_i id' x'
    simp only [Cd.block.injEq] at hc
    obtain ⟨rfl, h1⟩ := hc
    refine wp_block (wp_mono (ih x' _ σ a w h1 h hR) fun e a' w' hq => ?_)
    obtain ⟨σ', hq, hR'⟩ := hq
    cases e with
    | exit j =>
      simp only [blockQ] at hq
      simp only [Exit.inBlock]
      split
      · rename_i e; rw [if_pos e] at hq; exact ⟨σ', hq, hR'⟩
      · rename_i e; rw [if_neg e] at hq; exact ⟨σ', hq, hR'⟩
    | _ => exact ⟨σ', hq, hR'⟩
  | loop x ih =>
    intro code Q σ a w hc h hR
    cases code <;> simp only [comp, er] at hc <;> (try split at hc) <;> first | (cases hc; done) | (exact (noRegion hc (by intros; simp) (by intros; simp) (by intros; simp) (by intros; simp)).elim) | skip
    rename_i x'
    simp only [Cd.loop.injEq] at hc
    obtain ⟨ι, st, inv, ms, i0, hi0, hge, hstep⟩ := h
    refine wp_loop_ghost (fun n a w => ∃ i, inv i ∧ ms i = n ∧ Rel C (st i) a w) (ms i0) ⟨i0, hi0, rfl, hge.rel hR⟩ fun n a w hI => ?_
    obtain ⟨i, hi, rfl, hRi⟩ := hI
    refine wp_mono (ih x' _ (st i) a w hc (hstep i hi) hRi) fun e a' w' hq => ?_
    obtain ⟨σ', hq, hR'⟩ := hq
    cases e with
    | normal =>
      obtain ⟨j, hj, hlt, hge'⟩ := hq
      exact ⟨ms j, hlt, j, hj, rfl, hge'.rel hR'⟩
    | _ => exact ⟨σ', hq, hR'⟩
  | scope x ih =>
    intro code Q σ a w hc h hR
    cases code <;> simp only [comp, er] at hc <;> (try split at hc) <;> first | (cases hc; done) | (exact (noRegion hc (by intros; simp) (by intros; simp) (by intros; simp) (by intros; simp)).elim) | skip
    rename_i x'
    simp only [Cd.scope.injEq] at hc
    refine wp_scope_straight (wp_mono (ih x' _ σ a w hc h hR) fun e a' w' hq => ?_)
    obtain ⟨σ', hq, hR'⟩ := hq
    cases e with
    | goto l => exact hq.elim
    | _ => exact ⟨σ', hq, hR'⟩
  | rg segs keep =>
    intro code Q σ a w hc h hR
    cases code <;> simp only [comp, er] at hc <;> (try split at hc) <;> first | (cases hc; done) | skip
    rename_i id ops draw
    rcases compR_cases C.P C.N ns id ops draw with ⟨rfl, hd, hg, e⟩ | ⟨n, _, _, _, _, _, e⟩ | ⟨_, _, _, _, _, e⟩ | ⟨_, _, _, _, _, _, e⟩ | e
    rotate_left
    · rw [e] at hc; cases hc
    · rw [e] at hc; cases hc
    · rw [e] at hc; cases hc
    · rw [e] at hc; cases hc
    rw [e] at hc
    simp only [Cd.rg.injEq, and_true] at hc
    simp only [Array.all_eq_true_iff_forall_mem] at hd hg
    refine wp_region_list ?_
    have := segs_sound (C := C) (ops := ops) (K := kKeep keep Q) (Q := liftQ C Q) (fun σ' a' w' hK hR' => ⟨σ'.keep keep, hK, hR'.keep keep⟩) segs (grp ops ops.toList) σ a w hc (fun x hx o ho => by
      obtain ⟨h1, h2⟩ := grp_mem ops ops.toList x hx o ho
      exact ⟨h1, hd o (by simpa using h2), hg o (by simpa using h2)⟩) hR h
    rwa [grp_flat] at this
  | rgq hd' tl keep =>
    intro code Q σ a w hc h hR
    cases code <;> simp only [comp, er] at hc <;> (try split at hc) <;> first | (cases hc; done) | skip
    rename_i id ops draw
    rcases compR_cases C.P C.N ns id ops draw with ⟨_, _, _, e⟩ | ⟨n, rfl, hd, hg, hmix, hB, e⟩ | ⟨_, _, _, _, _, e⟩ | ⟨_, _, _, _, _, _, e⟩ | e
    · rw [e] at hc; cases hc
    rotate_left
    · rw [e] at hc; cases hc
    · rw [e] at hc; cases hc
    · rw [e] at hc; cases hc
    rw [e] at hc
    simp only [Cd.rgq.injEq, and_true] at hc
    simp only [Array.all_eq_true_iff_forall_mem] at hd hg
    obtain ⟨e1, e2⟩ := hc
    subst e1
    obtain ⟨loc, hF, hH⟩ := hR
    have hmem : ∀ (l : List Oper), (∀ o ∈ l, o ∈ ops.toList) → ∀ x ∈ grp ops l, ∀ o ∈ x.2, gOf ops o = x.1 ∧ dstOk C.N o = true ∧ guardOk ops o = true := fun l hl x hx o ho => by
      obtain ⟨h1, h2⟩ := grp_mem ops l x hx o ho
      have := hl o h2
      exact ⟨h1, hd o (by simpa using this), hg o (by simpa using this)⟩
    have hquiet : wpQuiet C.P ops (fun w => HR C loc σ.pv σ.ph σ.m w) (fun a' => ∀ w', HR C loc σ.pv σ.ph σ.m w' → wpList C.P ops (liftQ C Q) (ops.toList.drop n) a' w') (ops.toList.take n) a := by
      have := segsQ_sound (C := C) (ops := ops) (K := vcSegs C tl (kKeep keep Q)) (q := fun a' => ∀ w', HR C loc σ.pv σ.ph σ.m w' → wpList C.P ops (liftQ C Q) (ops.toList.drop n) a' w') ⟨w, hH⟩
        (fun σ' a' hs' hF' hK w' hw' => by
          obtain ⟨q1, q2, q3⟩ := hs'
          have := segs_sound (C := C) (ops := ops) (K := kKeep keep Q) (Q := liftQ C Q) (fun σ' a' w' hK hR' => ⟨σ'.keep keep, hK, hR'.keep keep⟩) tl (grp ops (ops.toList.drop n)) σ' a' w' e2 (hmem _ fun o ho => List.mem_of_mem_drop ho)
            ⟨loc, by rw [q1, q2]; exact hF', by rw [q1, q2, q3]; exact hw'⟩ hK
          rwa [grp_flat] at this) (grp ops (ops.toList.take n)) σ a ⟨rfl, rfl, rfl⟩ (hmem _ fun o ho => List.mem_of_mem_take ho) hF h
      rwa [grp_flat] at this
    rcases hB with ⟨hsz, hB⟩ | ⟨hsz, hB⟩
    · refine wp_region_quiet (C := fun w => HR C loc σ.pv σ.ph σ.m w) hmix hB hH.drew ?_
      rw [List.take_of_length_le (by simp [hsz])] at hquiet
      rw [List.drop_of_length_le (by simp [hsz])] at hquiet
      exact hquiet
    · exact wp_region_qt (C := fun w => HR C loc σ.pv σ.ph σ.m w) n hmix hB hH.drew hquiet
  | rga t keep =>
    intro code Q σ a w hc h hR
    cases code <;> simp only [comp, er] at hc <;> (try split at hc) <;> first | (cases hc; done) | skip
    rename_i id ops draw
    rcases compR_cases C.P C.N ns id ops draw with ⟨_, _, _, e⟩ | ⟨n, _, _, _, _, _, e⟩ | ⟨rfl, hd, hg, hmix, hns, e⟩ | ⟨rfl, hd, hg, hmix, hns, hts, e⟩ | e
    · rw [e] at hc; cases hc
    · rw [e] at hc; cases hc
    · rw [e] at hc
      simp only [Cd.rga.injEq, and_true] at hc
      simp only [Array.all_eq_true_iff_forall_mem] at hd hg
      obtain ⟨loc, hF, hH⟩ := hR
      exact wp_region_any hmix (wpAny_of_N (D := liftK C (kKeep keep Q)) (fun a' w' ⟨τ, hK, hR'⟩ => ⟨τ.keep keep, hK, hR'.keep keep⟩) _ _ _ _ (ot_sound hns hd hg _ _ t σ a _ hc h ⟨loc, hF, hH.drew⟩))
    · rw [e] at hc
      simp only [Cd.rga.injEq, and_true] at hc
      simp only [Array.all_eq_true_iff_forall_mem] at hd hg hts
      obtain ⟨t1, σ1, e1, hn, h, hR⟩ := ot_strip t σ h hR
      obtain ⟨u, σ0, hu, hh, h, hM⟩ := ot_held_of (e1.trans hc.symm) hn h
      obtain ⟨loc, hF, hH⟩ := hR
      have hR' : Rel C σ1 a { w with drawn := w.drawn + 1 } := ⟨loc, hF, hH.drew⟩
      have hts' : ∀ o ∈ ops, ∀ t ∈ heldTs C.P ops, o.dst ≠ some t := fun o ho t ht => by
        have h1 := hts o ho
        simp only [List.all_eq_true, bne_iff_ne, ne_eq] at h1
        exact h1 t ht
      exact wp_region_any hmix (wpAny_of_N (D := liftK C (kKeep keep Q)) (fun a' w' ⟨τ, hK, hR'⟩ => ⟨τ.keep keep, hK, hR'.keep keep⟩) _ _ _ _ (wpAnyN_of_S _ _ _ _
        (otH_sound hns hd hg hts' _ _ u σ1 a _ hu.symm h hh (fun _ _ => rfl) (stands_of hR' hh hM fun _ _ => rfl) hR')))
    · rw [e] at hc; cases hc
  | gh x ih =>
    intro code Q σ a w hc h hR
    obtain ⟨τ, hR', h'⟩ := h a w hR
    exact ih code Q τ a w hc h' hR'
  | raw c =>
    intro code Q σ a w hc h hR
    have : code = c := by
      cases code <;> simp only [comp, er] at hc <;> (try split at hc) <;> first | (cases hc; done) | (cases hc; rfl) | skip
      rename_i id ops draw
      rcases compR_cases C.P C.N ns id ops draw with ⟨_, _, _, e⟩ | ⟨n, _, _, _, _, _, e⟩ | ⟨_, _, _, _, _, e⟩ | ⟨_, _, _, _, _, _, e⟩ | e <;> rw [e] at hc <;> cases hc
      rfl
    subst this
    exact h a w hR

end
end Go.Proofs.YtmjiojflncffeaaGreat.Vc

/- Contracts: what a function is good for; how one is proved; how one is used. -/
set_option linter.unusedVariables false
set_option linter.unusedSimpArgs false
namespace Go.Proofs.YtmjiojflncffeaaGreat.Vc
open Go

def retV : List GV → Value
  | [x] => x.val
  | xs => .tuple (xs.map GV.val).toArray
def retS : List GV → SV
  | [x] => .g x
  | xs => .tup xs

/-- Called with these values, the memory m at its disposal: it returns; of all that was there only m has turned. -/
def Spec (P : Program) (f : Nat) (args : List Value) (m : PH) (w : World) (Q : List GV → PH → Prop) : Prop :=
  m.le w → Calls P f args.toArray w fun e w' => ∃ rs m', e = .returned (retV rs) ∧ (∀ r ∈ rs, r.ok) ∧ Q rs m' ∧ m'.le w' ∧ (∀ b, m' b ≠ none → m b ≠ none ∨ w.heap.size ≤ b) ∧ Kept m w w'

theorem Spec.mono {P : Program} {f : Nat} {args : List Value} {m : PH} {w : World} {Q Q' : List GV → PH → Prop} (h : Spec P f args m w Q) (hq : ∀ rs m', Q rs m' → Q' rs m') : Spec P f args m w Q' :=
  fun hm => (h hm).mono fun e w' ⟨rs, m', h1, h2, h3, h4⟩ => ⟨rs, m', h1, h2, hq rs m' h3, h4⟩

theorem Kept.refl (m : PH) (w : World) : Kept m w w := ⟨rfl, rfl, rfl, Nat.le_refl _, fun _ _ _ => rfl⟩

/-! ### The beginning -/
inductive AV where
  | g (x : GV)
  | ro (v : Value) (z : Nat) (df : GV) (xs : List GV)

def AV.val : AV → Value
  | .g x => x.val
  | .ro v _ _ _ => v
def AV.ok (u : PH) : AV → Prop
  | .g x => x.ok
  | .ro v z _ xs => SlR u v z xs

def initF : Nat → List AV → List (Nat × SV)
  | _, [] => []
  | i, .g x :: r => (i, .g x) :: initF (i + 1) r
  | i, .ro _ _ _ xs :: r => (i, .row i 0 xs.length) :: initF (i + 1) r
def initP : Nat → List AV → List (Nat × PV)
  | _, [] => []
  | i, .g _ :: r => initP (i + 1) r
  | i, .ro _ z df xs :: r => (i, .ro z df xs) :: initP (i + 1) r

def locOf : Value → Option (Nat × Nat × Nat)
  | .slice (some ⟨b, o, _⟩) _ c => some (b, o, c)
  | _ => none

theorem look_initP (l : List AV) : ∀ (i k : Nat), look (initP i l) k = if k < i then none else (l[k - i]?).bind fun x => match x with | .g _ => none | .ro _ z df xs => some (.ro z df xs) := by
  induction l with
  | nil => intro i k; simp [initP, look]
  | cons x l ih =>
    intro i k
    have key : ∀ y, (if k = i then y else if k < i + 1 then none else ((l[k - (i + 1)]?).bind fun x => match x with | .g _ => none | .ro _ z df xs => some (PV.ro z df xs))) =
        if k < i then none else if k = i then y else ((l[k - (i + 1)]?).bind fun x => match x with | .g _ => none | .ro _ z df xs => some (PV.ro z df xs)) := by
      intro y
      by_cases h1 : k = i
      · subst h1; simp
      · by_cases h2 : k < i
        · simp [h1, h2, show k < i + 1 by omega]
        · simp [h1, h2, show ¬ k < i + 1 by omega]
    cases x with
    | g x =>
      simp only [initP, ih]
      by_cases h1 : k = i
      · subst h1; simp
      · by_cases h2 : k < i
        · simp [h2, show k < i + 1 by omega]
        · rw [if_neg (by omega), if_neg h2, show k - i = (k - (i + 1)) + 1 by omega]; rfl
    | ro v z df xs =>
      simp only [initP, look, ih]
      by_cases h1 : k = i
      · subst h1; simp
      · by_cases h2 : k < i
        · simp [h1, h2, show k < i + 1 by omega]
        · rw [if_neg h1, if_neg (by omega), if_neg h2, show k - i = (k - (i + 1)) + 1 by omega]; rfl

theorem look_initF (l : List AV) : ∀ (i k : Nat), look (initF i l) k = if k < i then none else (l[k - i]?).map fun x => match x with | .g x => SV.g x | .ro _ _ _ xs => .row k 0 xs.length := by
  induction l with
  | nil => intro i k; simp [initF, look]
  | cons x l ih =>
    intro i k
    cases x with
    | g x =>
      simp only [initF, look, ih]
      by_cases h1 : k = i
      · subst h1; simp
      · by_cases h2 : k < i
        · simp [h1, h2, show k < i + 1 by omega]
        · rw [if_neg h1, if_neg (by omega), if_neg h2, show k - i = (k - (i + 1)) + 1 by omega]; rfl
    | ro v z df xs =>
      simp only [initF, look, ih]
      by_cases h1 : k = i
      · subst h1; simp
      · by_cases h2 : k < i
        · simp [h1, h2, show k < i + 1 by omega]
        · rw [if_neg h1, if_neg (by omega), if_neg h2, show k - i = (k - (i + 1)) + 1 by omega]; rfl

inductive RV where
  | tmp (t : Nat)
  | cell (t z : Nat) (ag : Bool)

def cRes (P : Program) : List ResultVar → Option (List RV)
  | [] => some []
  | .tmp t :: r => (cRes P r).map (.tmp t :: ·)
  | .cell a ty :: r => match P.underlying ty, P.info? ty, cRes P r with
    | some d, some i, some l => some (.cell a i.size (agD d) :: l)
    | _, _, _ => none

def resOne (σ : SS) : RV → Option GV
  | .tmp t => match look σ.fr t with
    | some (.g x) => some x
    | _ => none
  | .cell t z ag => match look σ.fr t with
    | some (.ref k p) => match look σ.pv k with
      | some (.box g) => (g.get p).bind fun y => if y.fits z ag then some y else none
      | _ => none
    | _ => none

def resL (σ : SS) : List RV → Option (List GV)
  | [] => some []
  | r :: l => match resOne σ r, resL σ l with
    | some x, some y => some (x :: y)
    | _, _ => none

/-- The end of a body. -/
structure Fin (C : Ctx) (rv : List RV) (Qf : List GV → PH → Prop) (σ : SS) : Prop where
  h : ∀ a w, Rel C σ a w → ∃ τ rs m', Rel C τ a w ∧ resL τ rv = some rs ∧ Qf rs m' ∧ PH.sub m' τ.m
def finQ (C : Ctx) (rv : List RV) (Qf : List GV → PH → Prop) : QT
  | .ret, σ => Fin C rv Qf σ
  | .normal, σ => Fin C rv Qf σ
  | _, _ => False

theorem fin_m {C : Ctx} {rv : List RV} {Qf : List GV → PH → Prop} {σ : SS} {rs : List GV} (m' : PH) (h : resL σ rv = some rs) (hs : PH.sub m' σ.m) (hq : Qf rs m') : Fin C rv Qf σ :=
  ⟨fun a w hR => ⟨σ, rs, m', hR, h, hq, hs⟩⟩
/-- No memory is handed back. -/
theorem fin_g {C : Ctx} {rv : List RV} {Qf : List GV → PH → Prop} {σ : SS} {rs : List GV} (h : resL σ rv = some rs) (hq : Qf rs PH.no) : Fin C rv Qf σ :=
  fin_m PH.no h (fun _ _ h => by cases h) hq

def rdRes (a : Act) : ResultVar → Sem Value
  | .tmp t => pure (a.tmps.getD t undef)
  | .cell b t => do loadVar t (← asAddr (a.tmps.getD b undef))

theorem resOne_run {C : Ctx} {σ : SS} {a : Act} {w : World} {loc : Loc} (hF : FR loc C.N σ.fr σ.pv σ.ph a) (hH : HR C loc σ.pv σ.ph σ.m w) {x : ResultVar} {r : RV} {g : GV} (hc : cRes C.P [x] = some [r]) (hg : resOne σ r = some g) :
    g.ok ∧ (rdRes a x).run C.P w = .ok g.val w := by
  cases x with
  | tmp t =>
    simp [cRes] at hc
    subst hc
    simp only [resOne] at hg
    split at hg
    · rename_i x hl
      simp at hg; subst hg
      obtain ⟨v, hv, h1, h2⟩ := hF.slots t _ hl
      exact ⟨h1, by simp [rdRes, hv, h2]⟩
    · cases hg
  | cell b t =>
    simp only [cRes] at hc
    split at hc
    · rename_i d i l hu hi hl
      simp at hl; subst hl
      simp at hc; subst hc
      simp only [resOne] at hg
      split at hg
      · rename_i k p hl
        split at hg
        · rename_i g' hb
          obtain ⟨y, hy, hf⟩ := Option.bind_eq_some_iff.mp hg
          split at hf
          · rename_i hfit
            simp at hf; subst hf
            obtain ⟨v, hv, g2, b2, c2, y2, h1, h2, h3, h4⟩ := hF.slots b _ hl
            rw [hb] at h1
            obtain rfl : g' = g2 := by simpa using h1
            obtain ⟨hok, b3, c3, e, hl3, hb3⟩ := hH.pvs k _ hb
            rw [h2] at hl3
            obtain ⟨rfl, rfl⟩ : b2 = b3 ∧ c2 = c3 := by simpa using hl3
            have hyok := (GV.get_at g' p y hok hy).1
            refine ⟨hyok, ?_⟩
            have := run_loadVar' (P := C.P) hu hi hyok hfit b2 (g'.offs p) w (fun j v hj => by rw [cell_of hb3]; simpa using GV.get_cells hok hy j v hj)
            simp [rdRes, hv, h4, asAddr, Sem.run_bind, this]
          · cases hf
        · cases hg
      · cases hg
    · cases hc

theorem resL_run {C : Ctx} {σ : SS} {a : Act} {w : World} {loc : Loc} (hF : FR loc C.N σ.fr σ.pv σ.ph a) (hH : HR C loc σ.pv σ.ph σ.m w) : ∀ {xs : List ResultVar} {rv : List RV} {rs : List GV}, cRes C.P xs = some rv → resL σ rv = some rs →
    (∀ r ∈ rs, r.ok) ∧ (xs.mapM (rdRes a)).run C.P w = .ok (rs.map GV.val) w
  | [], rv, rs, hc, hr => by
    simp [cRes] at hc; subst hc
    simp [resL] at hr; subst hr
    exact ⟨by simp, by simp⟩
  | x :: xs, rv, rs, hc, hr => by
    have hsplit : ∃ r l, cRes C.P [x] = some [r] ∧ cRes C.P xs = some l ∧ rv = r :: l := by
      cases x with
      | tmp t =>
        simp only [cRes, Option.map_eq_some_iff] at hc
        obtain ⟨l, hl, rfl⟩ := hc
        exact ⟨.tmp t, l, by simp [cRes], hl, rfl⟩
      | cell b t =>
        simp only [cRes] at hc
        split at hc
        · rename_i d i l hu hi hl
          simp at hc; subst hc
          exact ⟨.cell b i.size (agD d), l, by simp [cRes, hu, hi], hl, rfl⟩
        · cases hc
    obtain ⟨r, l, h1, h2, rfl⟩ := hsplit
    simp only [resL] at hr
    split at hr
    · rename_i g gs hg hgs
      simp at hr; subst hr
      obtain ⟨e1, e2⟩ := resOne_run hF hH h1 hg
      obtain ⟨e3, e4⟩ := resL_run hF hH h2 hgs
      refine ⟨by simpa using ⟨e1, e3⟩, ?_⟩
      rw [List.mapM_cons, Sem.run_bind, e2]
      simp only [Result.andThen_ok, Sem.run_bind, e4, Sem.run_pure, List.map_cons]
    · cases hr

theorem results_run {C : Ctx} {fn : Func} {σ : SS} {a : Act} {w : World} {rv : List RV} {rs : List GV} (hR : Rel C σ a w) (hc : cRes C.P fn.results.toList = some rv) (hr : resL σ rv = some rs) :
    (∀ r ∈ rs, r.ok) ∧ (results fn a.tmps).run C.P w = .ok (retV rs) w := by
  obtain ⟨loc, hF, hH⟩ := hR
  obtain ⟨h1, h2⟩ := resL_run hF hH hc hr
  refine ⟨h1, ?_⟩
  have hres : results fn a.tmps = (do
      let vs ← fn.results.mapM (rdRes a)
      pure (if h : vs.size = 1 then vs[0] else .tuple vs)) := by
    unfold results
    congr 1
  rw [hres, Sem.run_bind]
  have : (fn.results.mapM (rdRes a)).run C.P w = .ok (rs.map GV.val).toArray w := by
    rw [Array.mapM_eq_mapM_toList, Sem.run_map, h2]
    rfl
  rw [this]
  simp only [Result.andThen_ok]
  cases rs with
  | nil => rfl
  | cons x l =>
    cases l with
    | nil => simp [retV]
    | cons y l => simp [retV]

/-! ### Marks of loops over functions -/
def cutB (D : Nat) (u : PH) : PH := fun b => if b = D then none else u b
theorem Rel.shut {C : Ctx} {σ : SS} {a : Act} {w : World} {d : Deferred} {ds : List Deferred} (h : Rel C σ a w) (hd : a.defers = d :: ds) :
    ∃ D, d.target = .collected D ∧ (Instr.takeDeferred D).run C.P w = .ok [] (w.putObj D (.deferred none)) ∧ Rel C { σ with ph := σ.ph.map (cutB D) } { a with defers := ds } (w.putObj D (.deferred none)) := by
  obtain ⟨loc, hF, hH⟩ := h
  have hm := hF.defers
  rw [hd] at hm
  obtain ⟨hp, hall⟩ := hm
  rw [List.pairwise_cons] at hp
  obtain ⟨D, u, ht, hu, huD⟩ := hall d (by simp)
  have hw : w.heap[D]? = some (.deferred (some [])) := (hH.phs u hu).1 D _ huD
  obtain ⟨hmine, hmD⟩ := (hH.phs u hu).2 D (by rw [huD]; simp)
  have other : ∀ {b : Nat} {o : Obj}, w.heap[b]? = some o → o ≠ .deferred (some []) → (w.putObj D (.deferred none)).heap[b]? = some o := fun {b o} hb ho => by
    rw [World.putObj_heap_other (fun e => by rw [e, hw] at hb; exact ho (Option.some.inj hb).symm)]; exact hb
  refine ⟨D, ht, run_takeDeferred hw, loc, ⟨⟨hp.2, fun d' hd' => ?_⟩, hF.size, hF.slots⟩, ⟨?_, fun k y hk => ?_, hH.apart, fun k y b o c h1 h2 h3 => ?_, fun b o hb => ?_, hH.mmine, fun u' hu' => ?_⟩⟩
  · obtain ⟨D', u', h1, h2, h3⟩ := hall d' (List.mem_cons_of_mem _ hd')
    refine ⟨D', cutB D u', h1, List.mem_map_of_mem h2, ?_⟩
    rw [cutB, if_neg (fun e => hp.1 d' hd' (by rw [ht, h1, e]))]
    exact h3
  · obtain ⟨k1, k2, k3, k4, k5⟩ := hH.kept
    refine ⟨k1, k2, k3, by rw [World.putObj_size]; exact k4, fun k hk hk2 => ?_⟩
    rw [World.putObj_heap_other (fun e => ?_)]
    · exact k5 k hk hk2
    · subst e
      rcases hmine with h | h
      · omega
      · exact h hk2
  · have hp := hH.pvs k y hk
    cases y with
    | box g =>
      obtain ⟨g1, b, c, e, g2, g3⟩ := hp
      exact ⟨g1, b, c, e, g2, other g3 (by simp)⟩
    | row e z df xs =>
      refine ⟨hp.1, ?_⟩
      have h2 := hp.2
      cases hl : loc k with
      | none => rw [hl] at h2; exact h2
      | some q =>
        obtain ⟨b, o, c⟩ := q
        rw [hl] at h2
        obtain ⟨cs, g1, g2⟩ := h2
        exact ⟨cs, other g1 (by simp), g2⟩
    | ro z df xs =>
      refine ⟨hp.1, ?_⟩
      have h2 := hp.2
      cases hl : loc k with
      | none => rw [hl] at h2; exact h2
      | some q =>
        obtain ⟨b, o, c⟩ := q
        rw [hl] at h2
        refine ⟨h2.1, fun hc => ?_⟩
        obtain ⟨u1, cs, e, fz, g1, g2, g3⟩ := h2.2 hc
        rcases g1 with g1 | g1
        · exact ⟨u1, cs, e, fz, .inl g1, g2, g3⟩
        · refine ⟨cutB D u1, cs, e, fz, .inr (List.mem_map_of_mem g1), ?_, g3⟩
          rw [cutB, if_neg (fun e => by rw [e] at g2; have := (hH.phs u1 g1).1 D _ g2; rw [hw] at this; cases this)]
          exact g2
  · obtain ⟨g1, g2, g3⟩ := hH.priv k y b o c h1 h2 h3
    refine ⟨g1, g2, fun u' hu' => ?_⟩
    obtain ⟨u1, h4, rfl⟩ := List.mem_map.1 hu'
    rw [cutB, g3 u1 h4]
    split <;> rfl
  · rw [World.putObj_heap_other (fun e => by rw [e, hmD] at hb; cases hb)]
    exact hH.mle b o hb
  · obtain ⟨u1, h4, rfl⟩ := List.mem_map.1 hu'
    obtain ⟨q1, q2⟩ := hH.phs u1 h4
    refine ⟨fun b o hb => ?_, fun b hb => q2 b fun e => hb (by rw [cutB, e]; split <;> rfl)⟩
    rw [cutB] at hb
    split at hb
    · cases hb
    · rename_i hne
      rw [World.putObj_heap_other hne]
      exact q1 b o hb
theorem leaves_of {C : Ctx} {fn : Func} {R : Ending → World → Prop} : ∀ (ds : List Deferred) (σ : SS) (a : Act) (w : World), Rel C σ a w → a.defers = ds →
    (∀ w' ph', Rel C { σ with ph := ph' } { a with defers := [] } w' → LeavesIn Fence.wide 0 C.P fn a.tmps R [] .returning w') → LeavesInM Fence.wide 0 C.P fn a.tmps R ds .returning w
  | [], σ, a, w, hR, hd, h => h w σ.ph (by obtain ⟨t, d⟩ := a; simp only at hd; subst hd; exact hR)
  | d :: ds, σ, a, w, hR, hd, h => by
    obtain ⟨D, ht, hrun, hR'⟩ := hR.shut hd
    exact ⟨by simp, .inl ⟨D, _, ht, hrun, leaves_of ds { σ with ph := σ.ph.map (cutB D) } { a with defers := ds } _ hR' rfl fun w' ph' hR2 => h w' ph' hR2⟩⟩

theorem resL_ph (σ : SS) (ph : List PH) : ∀ rv : List RV, resL { σ with ph := ph } rv = resL σ rv
  | [] => rfl
  | r :: l => by
    have h1 : resOne { σ with ph := ph } r = resOne σ r := by cases r <;> rfl
    rw [resL, resL, h1, resL_ph σ ph l]
/-- A contract out of what is to be shown of the body. -/
theorem spec_of_vc (ns : List (Nat × Nat)) {P : Program} {f : Nat} {fn : Func} {code : Code} {cd : Cd} {rv : List RV} {Qf : List GV → PH → Prop} {w : World} {m : PH} (avs : List AV)
    (hf : P.funcs[f]? = some fn) (hb : fn.body = some code) (hc : comp P fn.ntmps ns code = er cd) (hr : cRes P fn.results.toList = some rv) (hn : avs.length ≤ fn.ntmps)
    (hok : ∀ x : AV, x ∈ avs → x.ok (Ctx.u0 ⟨P, fn.ntmps, w, m⟩))
    {Q : QT} (hQ : ∀ e σ, Q e σ → finQ ⟨P, fn.ntmps, w, m⟩ rv Qf e σ) (h : vc ⟨P, fn.ntmps, w, m⟩ cd Q ⟨initF 0 avs, initP 0 avs, [], m⟩) : Spec P f (avs.map AV.val) m w Qf := by
  intro hm
  refine (callsIn_wide (n := 0)).1 (callsIn_of_wp_marks hf hb trivial (wpIn_wide.2 ?_) rfl)
  have hR : Rel ⟨P, fn.ntmps, w, m⟩ ⟨initF 0 avs, initP 0 avs, [], m⟩ { tmps := (avs.map AV.val).toArray ++ Array.replicate (fn.ntmps - (avs.map AV.val).toArray.size) undef, defers := [] } w := by
    have hslot : ∀ (k : Nat) (x : AV), avs[k]? = some x → x.ok (Ctx.u0 ⟨P, fn.ntmps, w, m⟩) := fun k x hx => hok x (List.mem_of_getElem? hx)
    refine ⟨fun k => (avs[k]?).bind fun x => locOf x.val, ⟨Marks.nil _, by simp; omega, fun t x hx => ?_⟩, ⟨Kept.refl _ _, fun k y hk => ?_, ?_, ?_, hm, fun b hb => .inr hb, fun u hu => by cases hu⟩⟩
    · rw [look_initF] at hx
      simp only [Nat.not_lt_zero, if_false, Nat.sub_zero, Option.map_eq_some_iff] at hx
      obtain ⟨y, hy, rfl⟩ := hx
      have hlt : t < avs.length := (List.getElem?_eq_some_iff.1 hy).1
      refine ⟨y.val, by rw [Array.getElem?_append_left (by simpa using hlt)]; simp [hy], ?_⟩
      have ho := hslot t y hy
      cases y with
      | g x => exact ⟨ho, rfl⟩
      | ro v z df xs =>
        refine ⟨z, xs, by unfold rowE; rw [look_initP]; simp [hy], by simp, ?_⟩
        simp only [hy, Option.bind_some, AV.val]
        rcases ho.2 with ⟨rfl, rfl⟩ | ⟨ad, c, rfl, h2, h3⟩
        · exact ⟨none, rfl⟩
        · refine ⟨ad, by simp, fun hc => ?_⟩
          obtain ⟨cs, e, fz, g1, _⟩ := h3 hc
          obtain ⟨b, o, s⟩ := ad
          simp only at g1
          subst g1
          simp
    · rw [look_initP] at hk
      simp only [Nat.not_lt_zero, if_false, Nat.sub_zero, Option.bind_eq_some_iff] at hk
      obtain ⟨x, hx, hxy⟩ := hk
      cases x with
      | g x => cases hxy
      | ro v z df xs =>
        simp only [Option.some.injEq] at hxy
        subst hxy
        have ho := hslot k _ hx
        refine ⟨ho.1, ?_⟩
        simp only [hx, Option.bind_some, AV.val]
        rcases ho.2 with ⟨rfl, rfl⟩ | ⟨ad, c, rfl, h2, h3⟩
        · rfl
        · refine ⟨h2, fun hc => ?_⟩
          obtain ⟨cs, e, fz, g1, g2, g3⟩ := h3 hc
          exact ⟨_, cs, e, fz, .inl rfl, g2, g3⟩
    · intro k k' y y' b o c o' c' h1 h2
      rw [look_initP] at h1
      simp only [Nat.not_lt_zero, if_false, Nat.sub_zero, Option.bind_eq_some_iff] at h1
      obtain ⟨x, hx, hxy⟩ := h1
      cases x with
      | g x => cases hxy
      | ro v z df xs => simp only [Option.some.injEq] at hxy; subst hxy; cases h2
    · intro k y b o c h1 h2
      rw [look_initP] at h1
      simp only [Nat.not_lt_zero, if_false, Nat.sub_zero, Option.bind_eq_some_iff] at h1
      obtain ⟨x, hx, hxy⟩ := h1
      cases x with
      | g x => cases hxy
      | ro v z df xs => simp only [Option.some.injEq] at hxy; subst hxy; cases h2
  refine wp_mono (vc_sound ns cd code _ _ _ _ hc h hR) fun e a' w' hq => ?_
  obtain ⟨σ', hq, hR'⟩ := hq
  replace hq := hQ e σ' hq
  have fin : Fin ⟨P, fn.ntmps, w, m⟩ rv Qf σ' → LeavesInM Fence.wide 0 P fn a'.tmps (fun e w' => ∃ rs m', e = Ending.returned (retV rs) ∧ (∀ r ∈ rs, r.ok) ∧ Qf rs m' ∧ m'.le w' ∧ (∀ b, m' b ≠ none → m b ≠ none ∨ w.heap.size ≤ b) ∧ Kept m w w') a'.defers .returning w' := by
    intro hfin
    obtain ⟨τ, rs, m', hRτ, hrs, hqf, hsub⟩ := hfin.h a' w' hR'
    refine leaves_of (C := ⟨P, fn.ntmps, w, m⟩) a'.defers τ a' w' hRτ rfl fun w2 ph2 hR2 => ?_
    obtain ⟨h1, h2⟩ := results_run (fn := fn) hR2 hr (by rw [resL_ph]; exact hrs)
    obtain ⟨loc, hF, hH⟩ := hR2
    refine ⟨_, h2, rs, m', rfl, h1, hqf, fun k o hk => hH.mle k o (hsub k o hk), fun b hb => ?_, hH.kept⟩
    have : τ.m b ≠ none := fun e => by
      cases hmb : m' b with
      | none => exact hb hmb
      | some o => rw [hsub b o hmb] at e; cases e
    exact (hH.mmine b this).symm
  cases e with
  | ret => exact fin hq
  | normal => exact fin hq
  | exit id => exact hq.elim
  | goto l => exact hq.elim
  | panic c => exact hq.elim
  | outgrown => exact hq.elim

end Go.Proofs.YtmjiojflncffeaaGreat.Vc

/- Contracts: how one is used at a call. -/
set_option linter.unusedVariables false
set_option linter.unusedSimpArgs false
namespace Go.Proofs.YtmjiojflncffeaaGreat.Vc
open Go

section
variable {C : Ctx} {loc : Loc} {pv : List (Nat × PV)} {ph : List PH} {m m1 mr m' : PH} {w w' : World}

/-- Behind a call that had m1 at its disposal: what is private stands. -/
theorem HR.after (hH : HR C loc pv ph m w) (hm : m = uni m1 mr) (hd : dis m1 mr) (hle : m'.le w') (hdom : ∀ b, m' b ≠ none → m1 b ≠ none ∨ w.heap.size ≤ b) (hk : Kept m1 w w') :
    HR C loc pv ph (uni m' mr) w' ∧ HR C loc pv (m' :: ph) mr w' ∧ HR C loc pv ph mr w' ∧ dis m' mr := by
  have hm1 : ∀ b, m b = none → m1 b = none := fun b hb => by
    rw [hm] at hb
    simp only [uni] at hb
    cases h1 : m1 b with
    | none => rfl
    | some o => simp [h1] at hb
  have hmr : ∀ b, m b = none → mr b = none := fun b hb => by
    rw [hm] at hb
    simp only [uni] at hb
    cases h1 : mr b with
    | none => rfl
    | some o => simp [h1] at hb
  have hsame : ∀ b, b < w.heap.size → m b = none → w'.heap[b]? = w.heap[b]? := fun b hb hn => hk.2.2.2.2 b hb (hm1 b hn)
  have hm'no : ∀ b, b < w.heap.size → m b = none → m' b = none := fun b hb hn => by
    cases h : m' b with
    | none => rfl
    | some o =>
      rcases hdom b (by simp [h]) with h1 | h1
      · exact absurd (hm1 b hn) h1
      · omega
  have hmle : ∀ b o, mr b = some o → b < w.heap.size ∧ w'.heap[b]? = some o := fun b o hb => by
    have hn : m1 b = none := (hd b).resolve_right (by simp [hb])
    have h1 : w.heap[b]? = some o := hH.mle b o (by rw [hm]; simp [uni, hn, hb])
    have hlt : b < w.heap.size := (Array.getElem?_eq_some_iff.1 h1).1
    exact ⟨hlt, by rw [hk.2.2.2.2 b hlt hn]; exact h1⟩
  have hrmine : ∀ b, mr b ≠ none → C.mine b := fun b hb => hH.mmine b (fun e => hb (hmr b e))
  have h'mine : ∀ b, m' b ≠ none → C.mine b := fun b hb => by
    rcases hdom b hb with h1 | h1
    · exact hH.mmine b (fun e => h1 (hm1 b e))
    · exact .inl (Nat.le_trans hH.kept.2.2.2.1 h1)
  have hphlt : ∀ u ∈ ph, ∀ b, u b ≠ none → b < w.heap.size ∧ m b = none := fun u hu b hb => by
    cases h : u b with
    | none => exact absurd h hb
    | some o => exact ⟨(Array.getElem?_eq_some_iff.1 ((hH.phs u hu).1 b o h)).1, (hH.phs u hu).2 b hb |>.2⟩
  have kept : Kept C.m0 C.w0 w' := by
    obtain ⟨h1, h2, h3, h4, h5⟩ := hH.kept
    obtain ⟨k1, k2, k3, k4, k5⟩ := hk
    refine ⟨k1.trans h1, k2.trans h2, k3.trans h3, Nat.le_trans h4 k4, fun b hb hn => ?_⟩
    have hmb : m b = none := by
      cases h : m b with
      | none => rfl
      | some o =>
        rcases hH.mmine b (by simp [h]) with h6 | h6
        · omega
        · exact absurd hn h6
    rw [hsame b (by omega) hmb]
    exact h5 b hb hn
  have pvs : ∀ ph', (∀ u, u ∈ ph → u ∈ ph') → ∀ k y, look pv k = some y → PVr C loc ph' w' k y := fun ph' hph k y hy => by
    have hp := hH.pvs k y hy
    cases y with
    | box g =>
      obtain ⟨h0, b, c, e, hl, hb⟩ := hp
      exact ⟨h0, b, c, e, hl, by rw [hsame b (hH.own_lt hy rfl hl) (hH.priv k _ b 0 c hy rfl hl).2.1]; exact hb⟩
    | row e z df xs =>
      refine ⟨hp.1, ?_⟩
      have hp2 := hp.2
      cases hl : loc k with
      | none => rw [hl] at hp2; exact hp2
      | some l =>
        obtain ⟨b, o, c⟩ := l
        rw [hl] at hp2
        obtain ⟨cs, hb, hr⟩ := hp2
        exact ⟨cs, by rw [hsame b (hH.own_lt hy rfl hl) (hH.priv k _ b o c hy rfl hl).2.1]; exact hb, hr⟩
    | ro z df xs =>
      refine ⟨hp.1, ?_⟩
      have hp2 := hp.2
      cases hl : loc k with
      | none => rw [hl] at hp2; exact hp2
      | some l =>
        obtain ⟨b, o, c⟩ := l
        rw [hl] at hp2
        obtain ⟨h1, hp3⟩ := hp2
        refine ⟨h1, fun hc => ?_⟩
        obtain ⟨u, cs, e, fz, hu, hr⟩ := hp3 hc
        exact ⟨u, cs, e, fz, hu.imp id (hph u), hr⟩
  have hphs : ∀ u ∈ ph, u.le w' := fun u hu b o hb => by
    obtain ⟨h1, h2⟩ := hphlt u hu b (by simp [hb])
    rw [hsame b h1 h2]
    exact (hH.phs u hu).1 b o hb
  have huni : ∀ b, uni m' mr b ≠ none → m' b ≠ none ∨ mr b ≠ none := fun b hb => by
    cases h : m' b with
    | some o => exact .inl (by simp)
    | none => exact .inr (fun e => hb (by simp [uni, h, e]))
  have disj : ∀ b, m' b ≠ none → mr b = none := fun b hb => by
    cases h : mr b with
    | none => rfl
    | some o =>
      rcases hdom b hb with h1 | h1
      · exact absurd ((hd b).resolve_left h1) (by simp [h])
      · have := (hmle b o h).1; omega
  refine ⟨⟨kept, pvs ph fun _ h => h, hH.apart, fun k y b o c h1 h2 h3 => ?_, fun b o hb => ?_, fun b hb => ?_, fun u hu => ⟨hphs u hu, fun b hb => ?_⟩⟩,
    ⟨kept, pvs _ fun _ h => List.mem_cons_of_mem _ h, hH.apart, fun k y b o c h1 h2 h3 => ?_, fun b o hb => (hmle b o hb).2, hrmine, fun u hu => ?_⟩,
    ⟨kept, pvs ph fun _ h => h, hH.apart, fun k y b o c h1 h2 h3 => ?_, fun b o hb => (hmle b o hb).2, hrmine, fun u hu => ⟨hphs u hu, fun b hb => ?_⟩⟩, fun b => (Classical.em (m' b = none)).imp id (disj b)⟩
  · obtain ⟨e1, e2, e3⟩ := hH.priv k y b o c h1 h2 h3
    have hlt := hH.own_lt h1 h2 h3
    exact ⟨e1, by simp [uni, hm'no b hlt e2, hmr b e2], e3⟩
  · simp only [uni] at hb
    cases h : m' b with
    | some o' =>
      simp [h] at hb
      subst hb
      exact hle b _ h
    | none =>
      simp [h] at hb
      exact (hmle b o hb).2
  · exact (huni b hb).elim (h'mine b) (hrmine b)
  · obtain ⟨h1, h2⟩ := hphlt u hu b hb
    exact ⟨((hH.phs u hu).2 b hb).1, by simp [uni, hm'no b h1 h2, hmr b h2]⟩
  · obtain ⟨e1, e2, e3⟩ := hH.priv k y b o c h1 h2 h3
    have hlt := hH.own_lt h1 h2 h3
    refine ⟨e1, hmr b e2, fun u hu => ?_⟩
    rcases List.mem_cons.1 hu with rfl | hu
    · exact hm'no b hlt e2
    · exact e3 u hu
  · rcases List.mem_cons.1 hu with rfl | hu
    · exact ⟨hle, fun b hb => ⟨h'mine b hb, disj b hb⟩⟩
    · refine ⟨hphs u hu, fun b hb => ?_⟩
      obtain ⟨h1, h2⟩ := hphlt u hu b hb
      exact ⟨((hH.phs u hu).2 b hb).1, hmr b h2⟩
  · obtain ⟨e1, e2, e3⟩ := hH.priv k y b o c h1 h2 h3
    exact ⟨e1, hmr b e2, e3⟩
  · obtain ⟨h1, h2⟩ := hphlt u hu b hb
    exact ⟨((hH.phs u hu).2 b hb).1, hmr b h2⟩

end

/-- What an argument is, for who is called. -/
def ArgV (C : Ctx) (σ : SS) (w : World) : SV → Value → Prop
  | .g x, v => x.ok ∧ v = x.val
  | .row k o n, v => ∃ z xs, rowE σ.pv k = some (z, xs) ∧ o + n ≤ xs.length ∧ SlR w.ph v z ((xs.drop o).take n)
  | _, _ => True

def ArgsV (C : Ctx) (σ : SS) (w : World) : List SV → List Value → Prop
  | [], [] => True
  | x :: xs, v :: vs => ArgV C σ w x v ∧ ArgsV C σ w xs vs
  | _, _ => False

section
variable {C : Ctx} {σ : SS} {a : Act} {w : World} {loc : Loc}

theorem HR.slr (hH : HR C loc σ.pv σ.ph σ.m w) {k z s n : Nat} {xs : List GV} {v : Value} (hr : rowE σ.pv k = some (z, xs)) (hn : s + n ≤ xs.length) (hv : SlcV (loc k) z s n v) : SlR w.ph v z ((xs.drop s).take n) := by
  have hrow := hH.row hr
  have hlen : ((xs.drop s).take n).length = n := by simp; omega
  refine ⟨hrow.1.part s n, ?_⟩
  have hblk : ∀ b f c, loc k = some (b, f, c) → xs.length ≤ c ∧ (0 < c → ∃ cs e fz, w.heap[b]? = some (.cells cs e fz) ∧ RowAt cs f (flats xs)) := by
    intro b f c hc
    unfold rowE at hr
    cases hl : look σ.pv k with
    | none => simp [hl] at hr
    | some y =>
      have hp := hH.pvs k y hl
      cases y with
      | box g => simp [hl] at hr
      | row e z' df xs' =>
        simp [hl] at hr
        obtain ⟨rfl, rfl⟩ := hr
        have hp2 := hp.2
        rw [hc] at hp2
        obtain ⟨cs, hb, h1, h2, h3⟩ := hp2
        exact ⟨h1, fun _ => ⟨cs, e, (0, 0), hb, h3⟩⟩
      | ro z' df xs' =>
        simp [hl] at hr
        obtain ⟨rfl, rfl⟩ := hr
        have hp2 := hp.2
        rw [hc] at hp2
        obtain ⟨h1, hp3⟩ := hp2
        refine ⟨h1, fun hc0 => ?_⟩
        obtain ⟨u, cs, e, fz, hu, hb, h3⟩ := hp3 hc0
        have hle : u.le w := by
          rcases hu with rfl | hu
          · exact hH.u0le
          · exact (hH.phs u hu).1
        exact ⟨cs, e, fz, hle b _ hb, h3⟩
  cases hc : loc k with
  | none =>
    rw [hc] at hv hrow
    have h2 := hrow.2
    simp only at h2
    subst h2
    obtain ⟨base, hv⟩ := hv
    have hn0 : n = 0 := by simp at hn; omega
    subst hn0
    cases base with
    | none => exact .inl ⟨hv, by simp⟩
    | some ad => exact .inr ⟨ad, 0, by rw [hv]; simp, by simp, fun h => absurd h (by omega)⟩
  | some L =>
    obtain ⟨b, f, c⟩ := L
    rw [hc] at hv
    obtain ⟨ad, rfl, had⟩ := hv
    obtain ⟨h1, hb0⟩ := hblk b f c hc
    refine .inr ⟨ad, c - s, by rw [hlen], by rw [hlen]; omega, fun hcs => ?_⟩
    obtain ⟨cs, e, fz, hb, hat⟩ := hb0 (by omega)
    rw [had (by omega)]
    refine ⟨cs, e, fz, rfl, hb, fun j v hj => ?_⟩
    rw [Nat.add_assoc]
    exact hat _ _ (flats_part hrow.1 hn j v hj)

theorem argsV_of (hF : FR loc C.N σ.fr σ.pv σ.ph a) (hH : HR C loc σ.pv σ.ph σ.m w) : ∀ {args : List Opd} {svs : List SV}, evL σ args = some svs → ArgsV C σ w svs (args.map (evO a))
  | [], svs, h => by simp [evL] at h; subst h; trivial
  | x :: l, svs, h => by
    simp only [evL] at h
    split at h
    · rename_i y r hy hr
      simp at h; subst h
      refine ⟨?_, argsV_of hF hH hr⟩
      have hs := hF.ev rfl hy
      cases y with
      | g x => exact hs
      | row k s n =>
        obtain ⟨z, xs, h1, h2, h3⟩ := hs
        exact ⟨z, xs, h1, h2, hH.slr h1 h2 h3⟩
      | _ => trivial
    · cases h

theorem retS_ok {rs : List GV} (h : ∀ r ∈ rs, r.ok) {pv : List (Nat × PV)} : SVr loc pv (retS rs) (retV rs) := by
  unfold retS retV
  split
  · rename_i x
    exact ⟨h x (by simp), rfl⟩
  · exact ⟨h, rfl⟩

theorem call_anym {f : Nat} {args : List Opd} {d : Option Nat} {K : KT} {svs : List SV} {m1 mr : PH} {Q : List GV → PH → Prop} (hd : ∀ t, d = some t → t < C.N) (ha : evL σ args = some svs) (hm : σ.m = uni m1 mr) (hdis : dis m1 mr)
    (hs : ∀ w vs, ArgsV C σ w svs vs → C.u0.le w → (∀ u ∈ σ.ph, u.le w) → σ.m.le w → Spec C.P f vs m1 w Q)
    (hK : ∀ rs m', (∀ r ∈ rs, r.ok) → Q rs m' → dis m' mr → K ({ σ with m := uni m' mr }.put d (retS rs)) ∨ K ({ σ with ph := m' :: σ.ph, m := mr }.put d (retS rs)) ∨ K ({ σ with m := mr }.put d (retS rs))) : vcCall C f args d K σ := by
  constructor
  rintro a w ⟨loc, hF, hH⟩
  have hle1 : m1.le w := fun b o hb => hH.mle b o (by rw [hm]; simp [uni, hb])
  refine (hs w _ (argsV_of hF hH ha) hH.u0le (fun u hu => (hH.phs u hu).1) hH.mle hle1).mono fun e w' he => ?_
  obtain ⟨rs, m', rfl, hrs, hq, hle, hdom, hk⟩ := he
  refine ⟨_, rfl, ?_⟩
  obtain ⟨h1, h2, h3, hdd⟩ := hH.after hm hdis hle hdom hk
  rcases hK rs m' hrs hq hdd with hK | hK | hK
  · obtain ⟨q1, q2, q3⟩ := ({ σ with m := uni m' mr } : SS).put_pv d (retS rs)
    exact ⟨_, hK, loc, by rw [q1, q2]; exact hF.put (σ := { σ with m := uni m' mr }) hd rfl (retS_ok hrs), by rw [q1, q2, q3]; exact h1⟩
  · obtain ⟨q1, q2, q3⟩ := ({ σ with ph := m' :: σ.ph, m := mr } : SS).put_pv d (retS rs)
    exact ⟨_, hK, loc, by rw [q1, q2]; exact (hF.up fun u hu => List.mem_cons_of_mem _ hu).put (σ := { σ with ph := m' :: σ.ph, m := mr }) hd rfl (retS_ok hrs), by rw [q1, q2, q3]; exact h2⟩
  · obtain ⟨q1, q2, q3⟩ := ({ σ with m := mr } : SS).put_pv d (retS rs)
    exact ⟨_, hK, loc, by rw [q1, q2]; exact hF.put (σ := { σ with m := mr }) hd rfl (retS_ok hrs), by rw [q1, q2, q3]; exact h3⟩

theorem call_any {f : Nat} {args : List Opd} {d : Option Nat} {K : KT} {svs : List SV} {m1 mr : PH} {Q : List GV → PH → Prop} (hd : ∀ t, d = some t → t < C.N) (ha : evL σ args = some svs) (hm : σ.m = uni m1 mr) (hdis : dis m1 mr)
    (hs : ∀ w vs, ArgsV C σ w svs vs → C.u0.le w → (∀ u ∈ σ.ph, u.le w) → Spec C.P f vs m1 w Q)
    (hK : ∀ rs m', (∀ r ∈ rs, r.ok) → Q rs m' → dis m' mr → K ({ σ with m := uni m' mr }.put d (retS rs)) ∨ K ({ σ with ph := m' :: σ.ph, m := mr }.put d (retS rs)) ∨ K ({ σ with m := mr }.put d (retS rs))) : vcCall C f args d K σ :=
  call_anym hd ha hm hdis (fun w vs h1 h2 h3 _ => hs w vs h1 h2 h3) hK

/-- A call that only reads; what it makes is not looked at. -/
theorem call_val {f : Nat} {args : List Opd} {d : Option Nat} {K : KT} {svs : List SV} {Q : List GV → PH → Prop} (hd : ∀ t, d = some t → t < C.N) (ha : evL σ args = some svs)
    (hs : ∀ w vs, ArgsV C σ w svs vs → C.u0.le w → (∀ u ∈ σ.ph, u.le w) → Spec C.P f vs PH.no w Q)
    (hK : ∀ rs m', (∀ r ∈ rs, r.ok) → Q rs m' → K (σ.put d (retS rs))) : vcCall C f args d K σ :=
  call_any hd ha (uni_no σ.m).symm (dis_no _) hs fun rs m' h1 h2 _ => .inr (.inr (hK rs m' h1 h2))

/-- A call that has memory m1 at its disposal. -/
theorem call_with {f : Nat} {args : List Opd} {d : Option Nat} {K : KT} {svs : List SV} {Q : List GV → PH → Prop} (m1 mr : PH) (hd : ∀ t, d = some t → t < C.N) (ha : evL σ args = some svs) (hm : σ.m = uni m1 mr) (hdis : dis m1 mr)
    (hs : ∀ w vs, ArgsV C σ w svs vs → C.u0.le w → (∀ u ∈ σ.ph, u.le w) → Spec C.P f vs m1 w Q)
    (hK : ∀ rs m', (∀ r ∈ rs, r.ok) → Q rs m' → dis m' mr → K ({ σ with m := uni m' mr }.put d (retS rs))) : vcCall C f args d K σ :=
  call_any hd ha hm hdis hs fun rs m' h1 h2 h3 => .inl (hK rs m' h1 h2 h3)

end
end Go.Proofs.YtmjiojflncffeaaGreat.Vc

/- How what is to be shown is taken apart; rows handed out and taken in. -/
set_option linter.unusedVariables false
set_option linter.unusedSimpArgs false
namespace Go.Proofs.YtmjiojflncffeaaGreat.Vc
open Go

/-! ### What is to be shown, by the code's form -/
section
variable {C : Ctx} {Q : QT} {σ : SS}
theorem vc_skip : vc C .skip Q σ = Q .normal σ := rfl
theorem vc_ret : vc C .ret Q σ = Q .ret σ := rfl
theorem vc_exit {id : Nat} : vc C (.exit id) Q σ = Q (.exit id) σ := rfl
theorem vc_seq {a b : Cd} : vc C (.seq a b) Q σ = vc C a (thenQ (vc C b Q) Q) σ := rfl
theorem vc_block {id : Nat} {a : Cd} : vc C (.block id a) Q σ = vc C a (blockQ id Q) σ := rfl
theorem vc_rg {s : List Seg} {l : List Nat} : vc C (.rg s l) Q σ = vcSegs C s (kKeep l Q) σ := rfl
theorem vc_rgq {h t : List Seg} {l : List Nat} : vc C (.rgq h t l) Q σ = vcqSegs C h (vcSegs C t (kKeep l Q)) σ := rfl
theorem vc_rga {t : OT} {l : List Nat} : vc C (.rga t l) Q σ = vcOT C (kKeep l Q) t σ := rfl
theorem vc_ite {c : Opd} {a b : Cd} : vc C (.ite c a b) Q σ = match ev σ c with
    | some (.g (.s (.bool t))) => brB t true (vc C a Q σ) (vc C b Q σ)
    | _ => False := rfl
theorem thenQ_n {K : KT} : thenQ K Q .normal σ = K σ := rfl
theorem thenQ_r {K : KT} : thenQ K Q .ret σ = Q .ret σ := rfl
theorem thenQ_e {K : KT} {id : Nat} : thenQ K Q (.exit id) σ = Q (.exit id) σ := rfl
theorem blockQ_n {id : Nat} : blockQ id Q .normal σ = Q .normal σ := rfl
theorem blockQ_r {id : Nat} : blockQ id Q .ret σ = Q .ret σ := rfl
theorem blockQ_e {id j : Nat} : blockQ id Q (.exit j) σ = if j = id then Q .normal σ else Q (.exit j) σ := rfl
theorem kKeep_eq {l : List Nat} : kKeep l Q σ = Q .normal (σ.keep l) := rfl
theorem loopQ_r {ι : Type} {st : ι → SS} {inv : ι → Prop} {ms : ι → Nat} {i : ι} : loopQ st inv ms i Q .ret σ = Q .ret σ := rfl
theorem loopQ_e {ι : Type} {st : ι → SS} {inv : ι → Prop} {ms : ι → Nat} {i : ι} {id : Nat} : loopQ st inv ms i Q (.exit id) σ = Q (.exit id) σ := rfl
theorem loopQ_n {ι : Type} {st : ι → SS} {inv : ι → Prop} {ms : ι → Nat} {i : ι} : loopQ st inv ms i Q .normal σ = ∃ j, inv j ∧ ms j < ms i ∧ Ge σ (st j) := rfl

theorem br_tt {x y : Prop} : brB true true x y = x := by simp [brB]
theorem br_ff {x y : Prop} : brB false false x y = x := by simp [brB]
theorem br_tf {x y : Prop} : brB true false x y = y := by simp [brB]
theorem br_ft {x y : Prop} : brB false true x y = y := by simp [brB]
theorem br_t {b : Bool} {x y : Prop} : brB b true x y = ((b = true → x) ∧ (b = false → y)) := rfl
theorem br_f {b : Bool} {x y : Prop} : brB b false x y = ((b = false → x) ∧ (b = true → y)) := rfl
theorem segs_nil {K : KT} : vcSegs C [] K σ = K σ := rfl
theorem segs_n {K : KT} {ops : List (Option Nat × RO)} {r : List Seg} : vcSegs C (⟨none, ops⟩ :: r) K σ = vcSegOps C ops (vcSegs C r K) σ := rfl
theorem segs_g {K : KT} {t : Nat} {want : Bool} {ops : List (Option Nat × RO)} {r : List Seg} : vcSegs C (⟨some (t, want), ops⟩ :: r) K σ = match look σ.fr t with
    | some (.g (.s (.bool b))) =>
      brB b want (vcSegOps C ops (vcSegs C r K) (σ.put (some t) (.g (.s (.bool want))))) (vcSegs C r K (skipAll ops (σ.put (some t) (.g (.s (.bool !want))))))
    | some .no => vcSegs C r K (skipAll ops σ)
    | _ => False := rfl
theorem ops_nil {K : KT} : vcSegOps C [] K σ = K σ := rfl
theorem ops_cons {K : KT} {d : Option Nat} {o : RO} {r : List (Option Nat × RO)} : vcSegOps C ((d, o) :: r) K σ = vcOp C d (vcSegOps C r K) σ o := rfl
theorem qsegs_nil {K : KT} : vcqSegs C [] K σ = K σ := rfl
theorem qsegs_n {K : KT} {ops : List (Option Nat × RO)} {r : List Seg} : vcqSegs C (⟨none, ops⟩ :: r) K σ = vcqSegOps C ops (vcqSegs C r K) σ := rfl
theorem qsegs_g {K : KT} {t : Nat} {want : Bool} {ops : List (Option Nat × RO)} {r : List Seg} : vcqSegs C (⟨some (t, want), ops⟩ :: r) K σ = match look σ.fr t with
    | some (.g (.s (.bool b))) =>
      brB b want (vcqSegOps C ops (vcqSegs C r K) (σ.put (some t) (.g (.s (.bool want))))) (vcqSegs C r K (skipAll ops (σ.put (some t) (.g (.s (.bool !want))))))
    | some .no => vcqSegs C r K (skipAll ops σ)
    | _ => False := rfl
theorem qops_nil {K : KT} : vcqSegOps C [] K σ = K σ := rfl
theorem qops_cons {K : KT} {d : Option Nat} {o : RO} {r : List (Option Nat × RO)} : vcqSegOps C ((d, o) :: r) K σ = vcqOp C d (vcqSegOps C r K) σ o := rfl
theorem ot_done {K : KT} : vcOT C K .done σ = K σ := rfl
theorem ot_op {K : KT} {s : Seg} {t : OT} : vcOT C K (.op s t) σ = vcSegs C [s] (vcOT C K t) σ := rfl
theorem ot_or {K : KT} {s t : OT} : vcOT C K (.or s t) σ = (vcOT C K s σ ∧ vcOT C K t σ) := rfl
theorem ot_held {K : KT} {ts : List Nat} {t : OT} : vcOT C K (.held ts t) σ = (heldOk σ σ ts ∧ vcOTH C K ts σ t σ) := rfl
def heldC (ts : List Nat) (σ0 : SS) (K : KT) : KT := fun σ' => HeldM σ0.m σ0.ph σ'.m σ'.ph ∧ heldOk σ0 σ' ts ∧ K σ'
def heldF (ts : List Nat) (σ0 : SS) (K : KT) : KT := fun σ' => heldOk σ0 σ' ts ∧ K σ'
section
variable {K : KT} {ts : List Nat} {σ0 : SS}
theorem heldC_eq : heldC ts σ0 K σ = (HeldM σ0.m σ0.ph σ.m σ.ph ∧ heldOk σ0 σ ts ∧ K σ) := rfl
theorem heldF_eq : heldF ts σ0 K σ = (heldOk σ0 σ ts ∧ K σ) := rfl
theorem oh_done : vcOTH C K ts σ0 .done σ = K σ := rfl
theorem oh_op {s : Seg} {t : OT} : vcOTH C K ts σ0 (.op s t) σ = vcSegs C [s] (heldC ts σ0 (vcOTH C K ts σ0 t)) σ := rfl
theorem oh_first {d : Option Nat} {x : Opd} {z : Nat} {ag : Bool} {t : OT} : vcOTH C K ts σ0 (.first ⟨none, [(d, .ld x z ag)]⟩ t) σ = ldH C σ0 ts x z ag d (heldF ts σ0 (vcOTH C K ts σ0 t)) σ := rfl
end

def skipL : List (Option Nat × RO) → List (Nat × SV) → List (Nat × SV)
  | [], fr => fr
  | (d, o) :: r, fr => bif o.isGh then skipL r fr else match d with
    | some t => skipL r ((t, .no) :: fr)
    | none => skipL r fr
theorem skip_mk : ∀ (r : List (Option Nat × RO)) (fr : List (Nat × SV)) (pv : List (Nat × PV)) (ph : List PH) (m : PH), skipAll r ⟨fr, pv, ph, m⟩ = ⟨skipL r fr, pv, ph, m⟩
  | [], _, _, _, _ => rfl
  | (d, o) :: r, fr, pv, ph, m => by
    simp only [skipAll, skipL]
    cases o.isGh
    · cases d with
      | none => exact skip_mk r fr pv ph m
      | some t => exact skip_mk r _ pv ph m
    · exact skip_mk r fr pv ph m
theorem put_mk {fr : List (Nat × SV)} {pv : List (Nat × PV)} {ph : List PH} {m : PH} {t : Nat} {x : SV} : SS.put ⟨fr, pv, ph, m⟩ (some t) x = ⟨(t, x) :: fr, pv, ph, m⟩ := rfl
theorem put_mk0 {fr : List (Nat × SV)} {pv : List (Nat × PV)} {ph : List PH} {m : PH} {x : SV} : SS.put ⟨fr, pv, ph, m⟩ none x = ⟨fr, pv, ph, m⟩ := rfl
theorem keep_mk {fr : List (Nat × SV)} {pv : List (Nat × PV)} {ph : List PH} {m : PH} {l : List Nat} : SS.keep ⟨fr, pv, ph, m⟩ l = ⟨keepL fr l, pv, ph, m⟩ := rfl

/-- A loop: states by index. -/
theorem vc_loop {a : Cd} {ι : Type} (st : ι → SS) (inv : ι → Prop) (ms : ι → Nat) (i : ι) (h0 : inv i) (h1 : Ge σ (st i)) (h2 : ∀ i, inv i → vc C a (loopQ st inv ms i Q) (st i)) : vc C (.loop a) Q σ := ⟨ι, st, inv, ms, i, h0, h1, h2⟩

/-- The results are values, of which this is so. -/
def finW (rv : List RV) (Qf : List GV → Prop) : QT
  | .ret, σ | .normal, σ => match resL σ rv with
    | some rs => Qf rs
    | none => False
  | _, _ => False
theorem finW_r {rv : List RV} {Qf : List GV → Prop} : finW rv Qf .ret σ = match resL σ rv with
    | some rs => Qf rs
    | none => False := rfl
theorem finW_finQ {rv : List RV} {Qf : List GV → Prop} {Qg : List GV → PH → Prop} (h : ∀ rs, Qf rs → Qg rs PH.no) (e : Exit) (σ : SS) (hq : finW rv Qf e σ) : finQ C rv Qg e σ := by
  cases e <;> first | exact hq.elim | skip
  all_goals
    simp only [finW] at hq
    split at hq
    · rename_i rs hr; exact fin_g hr (h rs hq)
    · exact hq.elim
theorem finQ_r {rv : List RV} {Qf : List GV → PH → Prop} : finQ C rv Qf .ret σ = Fin C rv Qf σ := rfl
theorem finQ_n {rv : List RV} {Qf : List GV → PH → Prop} : finQ C rv Qf .normal σ = Fin C rv Qf σ := rfl
end

/-! ### States that say more -/
def frIn (fr : List (Nat × SV)) : List (Nat × SV) → Prop
  | [] => True
  | (t, x) :: r => look fr t = some x ∧ frIn fr r
def pvIn (pv : List (Nat × PV)) : List (Nat × PV) → Prop
  | [] => True
  | (t, x) :: r => look pv t = some x ∧ pvIn pv r
def SV.key : SV → Option Nat
  | .ref k _ => some k
  | .row k _ _ => some k
  | .rref k _ _ => some k
  | _ => none
def wfIn (pv : List (Nat × PV)) : List (Nat × SV) → Bool
  | [] => true
  | (_, x) :: r => (match x.key with | some k => (look pv k).isSome | none => true) && wfIn pv r

theorem frIn_look {fr : List (Nat × SV)} : ∀ {l : List (Nat × SV)}, frIn fr l → ∀ t x, look l t = some x → look fr t = some x
  | [], _, t, x, h => by cases h
  | (k, y) :: r, h, t, x, hx => by
    simp only [look] at hx
    split at hx
    · rename_i e; subst e; rw [← hx]; exact h.1
    · exact frIn_look h.2 t x hx
theorem pvIn_look {pv : List (Nat × PV)} : ∀ {l : List (Nat × PV)}, pvIn pv l → ∀ t x, look l t = some x → look pv t = some x
  | [], _, t, x, h => by cases h
  | (k, y) :: r, h, t, x, hx => by
    simp only [look] at hx
    split at hx
    · rename_i e; subst e; rw [← hx]; exact h.1
    · exact pvIn_look h.2 t x hx
theorem SV.key_of {x : SV} {k : Nat} (h : x.mentions k = true) : x.key = some k := by
  cases x <;> simp [SV.mentions] at h <;> simp [SV.key, h]
theorem wfIn_look {pv : List (Nat × PV)} : ∀ {l : List (Nat × SV)}, wfIn pv l = true → ∀ t x, look l t = some x → ∀ k, x.mentions k = true → (look pv k).isSome = true
  | [], _, t, x, h, _, _ => by cases h
  | (j, y) :: r, h, t, x, hx, k, hk => by
    simp only [wfIn, Bool.and_eq_true] at h
    simp only [look] at hx
    split at hx
    · simp at hx; subst hx
      have := h.1
      rw [SV.key_of hk] at this
      exact this
    · exact wfIn_look h.2 t x hx k hk

theorem ge_of {σ τ : SS} (h1 : frIn σ.fr τ.fr) (h2 : pvIn σ.pv τ.pv) (h3 : wfIn τ.pv τ.fr = true) (h4 : τ.ph = σ.ph) (h5 : τ.m = σ.m) : Ge σ τ :=
  ⟨frIn_look h1, pvIn_look h2, wfIn_look h3, fun u hu => h4 ▸ hu, fun _ _ _ _ _ u hu => h4 ▸ hu, h5, fun u hu => h4 ▸ hu⟩

/-! ### A function and its code -/
structure Ok (P : Program) (f : Nat) (cd : Cd) (N : Nat) (ns : List (Nat × Nat)) (rv : List RV) : Prop where
  h : ∃ fn code, P.funcs[f]? = some fn ∧ fn.body = some code ∧ fn.ntmps = N ∧ comp P fn.ntmps ns code = er cd ∧ cRes P fn.results.toList = some rv

theorem Ok.mk' {P : Program} {f : Nat} {cd : Cd} {N : Nat} {ns : List (Nat × Nat)} {rv : List RV} {fn : Func} (hf : P.funcs[f]? = some fn) (hN : fn.ntmps = N) (hc : fn.body.map (comp P N ns) = some (er cd)) (hr : cRes P fn.results.toList = some rv) : Ok P f cd N ns rv := by
  cases hb : fn.body with
  | none => rw [hb] at hc; cases hc
  | some code =>
    rw [hb] at hc
    simp at hc
    exact ⟨fn, code, hf, hb, hN, by rw [hN]; exact hc, hr⟩

theorem spec_of {P : Program} {f : Nat} {cd : Cd} {N : Nat} {ns : List (Nat × Nat)} {rv : List RV} (hk : Ok P f cd N ns rv) {Qf : List GV → PH → Prop} {w : World} {m : PH} (avs : List AV) (hn : avs.length ≤ N)
    (hok : ∀ x : AV, x ∈ avs → x.ok (Ctx.u0 ⟨P, N, w, m⟩))
    (h : vc ⟨P, N, w, m⟩ cd (finQ ⟨P, N, w, m⟩ rv Qf) ⟨initF 0 avs, initP 0 avs, [], m⟩) : Spec P f (avs.map AV.val) m w Qf := by
  obtain ⟨fn, code, hf, hb, hN, hc, hr⟩ := hk.h
  subst hN
  exact spec_of_vc ns avs hf hb hc hr hn hok (fun _ _ h => h) h

/-- The same, where values are all that is handed back. -/
theorem spec_val {P : Program} {f : Nat} {cd : Cd} {N : Nat} {ns : List (Nat × Nat)} {rv : List RV} (hk : Ok P f cd N ns rv) {Qf : List GV → Prop} {w : World} {m : PH} (avs : List AV) (hn : avs.length ≤ N)
    (hok : ∀ x : AV, x ∈ avs → x.ok (Ctx.u0 ⟨P, N, w, m⟩))
    (h : vc ⟨P, N, w, m⟩ cd (finW rv Qf) ⟨initF 0 avs, initP 0 avs, [], m⟩) : Spec P f (avs.map AV.val) m w fun rs _ => Qf rs := by
  obtain ⟨fn, code, hf, hb, hN, hc, hr⟩ := hk.h
  subst hN
  exact spec_of_vc ns avs hf hb hc hr hn hok (fun e σ hq => finW_finQ (fun _ h => h) e σ hq) h

theorem u0_no {P : Program} {N : Nat} {w : World} : Ctx.u0 ⟨P, N, w, PH.no⟩ = w.ph := rfl

/-! ### Calls of functions that take and give plain values -/
/-- Such a function, for these values. -/
def FnV (P : Program) (f : Nat) (args rs : List GV) : Prop := ∀ w, Spec P f (args.map GV.val) PH.no w fun rs' _ => rs' = rs

theorem argsV_gv {C : Ctx} {σ : SS} {w : World} : ∀ {svs : List SV} {gs : List GV} {vs : List Value}, gvL svs = some gs → ArgsV C σ w svs vs → vs = gs.map GV.val
  | [], gs, vs, h, ha => by
    simp [gvL] at h; subst h
    cases vs with
    | nil => rfl
    | cons v vs => exact ha.elim
  | x :: l, gs, vs, h, ha => by
    cases vs with
    | nil => exact ha.elim
    | cons v vs =>
      unfold gvL at h
      split at h
      · rename_i e; cases e
      · rename_i y l' e
        simp only [List.cons.injEq] at e
        obtain ⟨rfl, rfl⟩ := e
        simp only [Option.map_eq_some_iff] at h
        obtain ⟨gs', h, rfl⟩ := h
        simp [argsV_gv h ha.2, ha.1.2]
      · cases h

def dOk (d : Option Nat) (N : Nat) : Bool := match d with
  | some t => decide (t < N)
  | none => true
theorem dOk_spec {d : Option Nat} {N : Nat} (h : dOk d N = true) : ∀ t, d = some t → t < N := by
  intro t ht
  subst ht
  simpa [dOk] using h

section
variable {C : Ctx} {σ : SS} {f : Nat} {args : List Opd} {d : Option Nat} {K : KT}

theorem call_fnv {svs : List SV} {gs rs : List GV} (hf : FnV C.P f gs rs) (hd : dOk d C.N = true) (ha : evL σ args = some svs) (hg : gvL svs = some gs) (hK : (∀ r ∈ rs, r.ok) → K (σ.put d (retS rs))) : vcCall C f args d K σ :=
  call_val (Q := fun rs' _ => rs' = rs) (dOk_spec hd) ha (fun w vs hv _ _ => by rw [argsV_gv hg hv]; exact hf w) fun rs' m' h1 h2 => by subst h2; exact hK h1

theorem callq_of {y : GV} {svs : List SV} (hy : y.ok) (ha : evL σ args = some svs) (hs : ∀ w vs, ArgsV C σ w svs vs → C.u0.le w → (∀ u ∈ σ.ph, u.le w) → Spec C.P f vs PH.no w fun rs' _ => rs' = [y]) (hK : K (σ.put d (.g y))) : vcCallQ C f args d K σ := by
  refine ⟨y, hy, fun loc a w hF hH => ?_, hK⟩
  refine (hs w _ (argsV_of hF hH ha) hH.u0le (fun u hu => (hH.phs u hu).1) (fun _ _ h => by cases h)).mono fun e w' he => ?_
  obtain ⟨rs, m', rfl, hrs, rfl, hle, hdom, hk⟩ := he
  exact ⟨rfl, (hH.after (uni_no σ.m).symm (dis_no _) hle hdom hk).2.2.1⟩

theorem argsV_nil {w : World} {vs : List Value} (h : ArgsV C σ w [] vs) : vs = [] := by
  cases vs with
  | nil => rfl
  | cons _ _ => exact h.elim
theorem argsV_g {w : World} {x : GV} {svs : List SV} {vs : List Value} (h : ArgsV C σ w (.g x :: svs) vs) : ∃ vs', vs = x.val :: vs' ∧ x.ok ∧ ArgsV C σ w svs vs' := by
  cases vs with
  | nil => exact h.elim
  | cons v vs => exact ⟨vs, by rw [h.1.2], h.1.1, h.2⟩
theorem argsV_row {w : World} {k n z : Nat} {xs : List GV} {svs : List SV} {vs : List Value} (hr : rowE σ.pv k = some (z, xs)) (hn : n = xs.length) (h : ArgsV C σ w (.row k 0 n :: svs) vs) : ∃ v vs', vs = v :: vs' ∧ SlR w.ph v z xs ∧ ArgsV C σ w svs vs' := by
  cases vs with
  | nil => exact h.elim
  | cons v vs =>
    obtain ⟨⟨z', xs', e1, e2, e3⟩, h⟩ := h
    rw [hr] at e1
    obtain ⟨rfl, rfl⟩ : z = z' ∧ xs = xs' := by simpa using e1
    rw [List.drop_zero, List.take_of_length_le (by omega)] at e3
    exact ⟨v, vs, rfl, e3, h⟩

/-- A call that reads, with results that are known. -/
theorem call_is (svs : List SV) (rs : List GV) (hd : dOk d C.N = true) (ha : evL σ args = some svs) (hs : ∀ w vs, ArgsV C σ w svs vs → C.u0.le w → (∀ u ∈ σ.ph, u.le w) → Spec C.P f vs PH.no w fun rs' _ => rs' = rs) (hK : K (σ.put d (retS rs))) : vcCall C f args d K σ :=
  call_val (Q := fun rs' _ => rs' = rs) (dOk_spec hd) ha hs fun rs' m' h1 h2 => by subst h2; exact hK

theorem callq_fnv {svs : List SV} {gs : List GV} {y : GV} (hf : FnV C.P f gs [y]) (hy : y.ok) (ha : evL σ args = some svs) (hg : gvL svs = some gs) (hK : K (σ.put d (.g y))) : vcCallQ C f args d K σ :=
  callq_of hy ha (fun w vs hv _ _ => by rw [argsV_gv hg hv]; exact hf w) hK
end

theorem spec_fnv {P : Program} {f : Nat} {cd : Cd} {N : Nat} {ns : List (Nat × Nat)} {rv : List RV} (hk : Ok P f cd N ns rv) {args rs : List GV} (hn : args.length ≤ N) (hok : ∀ x ∈ args, x.ok)
    (h : ∀ w, vc ⟨P, N, w, PH.no⟩ cd (finW rv fun rs' => rs' = rs) ⟨initF 0 (args.map AV.g), [], [], PH.no⟩) : FnV P f args rs := by
  intro w
  have hp : ∀ (i : Nat) (l : List GV), initP i (l.map AV.g) = [] := fun i l => by
    induction l generalizing i with
    | nil => rfl
    | cons x l ih => simpa [initP] using ih (i + 1)
  have := spec_val hk (Qf := fun rs' => rs' = rs) (w := w) (m := PH.no) (args.map AV.g) (by simpa using hn) (fun x hx => by
    simp only [List.mem_map] at hx
    obtain ⟨g, hg, rfl⟩ := hx
    exact hok g hg) (by rw [hp]; exact h w)
  simpa [AV.val, Function.comp_def] using this

/-! ### Rows handed out and taken in -/
section
variable {C : Ctx} {σ : SS} {a : Act} {w : World}

/-- A slice that reads so becomes a row that is read. -/
theorem Rel.ro (h : Rel C σ a w) {t : Nat} (k : Nat) {v : Value} {z : Nat} (df : GV) {xs : List GV} {u : PH} (ht : look σ.fr t = some (.g (.s v))) (hk : look σ.pv k = none) (hs : SlR u v z xs) (hu : u = C.u0 ∨ u ∈ σ.ph) :
    Rel C ⟨(t, .row k 0 xs.length) :: σ.fr, (k, .ro z df xs) :: σ.pv, σ.ph, σ.m⟩ a w := by
  obtain ⟨loc, hF, hH⟩ := h
  obtain ⟨v', hv, hvs⟩ := hF.slots t _ ht
  have hvv : v' = v := hvs.2
  subst hvv
  obtain ⟨hels, hs⟩ := hs
  have key : ∀ (L : Option (Nat × Nat × Nat)), SlcV L z 0 xs.length v' → (match L with
      | none => xs = []
      | some (b, o, c) => xs.length ≤ c ∧ (0 < c → ∃ u cs e fz, (u = C.u0 ∨ u ∈ σ.ph) ∧ u b = some (.cells cs e fz) ∧ RowAt cs o (flats xs))) →
      Rel C ⟨(t, .row k 0 xs.length) :: σ.fr, (k, .ro z df xs) :: σ.pv, σ.ph, σ.m⟩ a w := by
    intro L h1 h2
    refine ⟨fun j => if j = k then L else loc j, ⟨hF.defers, hF.size, fun s x hx => ?_⟩, ⟨hH.kept, fun j y hj => ?_, fun j j' y y' b o c o' c' g1 g2 g3 g4 g5 g6 => ?_, fun j y b o c g1 g2 g3 => ?_, hH.mle, hH.mmine, hH.phs⟩⟩
    · simp only [look] at hx
      split at hx
      · rename_i e; subst e
        simp at hx; subst hx
        exact ⟨v', hv, z, xs, by simp [rowE, look], by simp, by simpa using h1⟩
      · obtain ⟨v2, hv2, hr2⟩ := hF.slots s x hx
        refine ⟨v2, hv2, hr2.weaken fun j hj => ?_⟩
        have hjk : j ≠ k := fun e => hr2.there j hj (e ▸ hk)
        exact ⟨by simp [hjk], by simp [look, hjk]⟩
    · simp only [look] at hj
      split at hj
      · rename_i e; subst e
        simp at hj; subst hj
        refine ⟨hels, ?_⟩
        simp only [if_true]
        cases L with
        | none => exact h2
        | some l => exact h2
      · rename_i hjk
        have hp := hH.pvs j y hj
        cases y with
        | box g => simpa [PVr, hjk] using hp
        | row e' z' df' xs' => simpa [PVr, hjk] using hp
        | ro z' df' xs' => simpa [PVr, hjk] using hp
    · simp only [look] at g1 g4
      by_cases hj : j = k
      · simp only [hj, if_true, Option.some.injEq] at g1; subst g1; cases g2
      · by_cases hj' : j' = k
        · simp only [hj', if_true, Option.some.injEq] at g4; subst g4; cases g5
        · simp only [hj, if_false] at g1 g3
          simp only [hj', if_false] at g4 g6
          exact hH.apart j j' y y' b o c o' c' g1 g2 g3 g4 g5 g6
    · simp only [look] at g1
      by_cases hj : j = k
      · simp only [hj, if_true, Option.some.injEq] at g1; subst g1; cases g2
      · simp only [hj, if_false] at g1 g3
        exact hH.priv j y b o c g1 g2 g3
  rcases hs with ⟨rfl, rfl⟩ | ⟨ad, c, rfl, h1, h2⟩
  · exact key none ⟨none, rfl⟩ rfl
  · rcases Nat.eq_zero_or_pos c with hc0 | hc0
    · subst hc0
      have : xs = [] := List.length_eq_zero_iff.mp (by omega)
      subst this
      exact key none ⟨some ad, rfl⟩ rfl
    · obtain ⟨cs, e, fz, g1, g2, g3⟩ := h2 hc0
      obtain ⟨b, o, sp⟩ := ad
      simp only at g1 g2 g3
      subst g1
      exact key (some (b, o, c)) ⟨⟨b, o, none⟩, by simp, fun _ => by simp⟩ ⟨h1, fun _ => ⟨u, cs, e, fz, hu, g2, g3⟩⟩

/-- Memory at one's disposal is only read from now on. -/
theorem Rel.frz (h : Rel C σ a w) {u m' : PH} (hm : σ.m = uni u m') (hd : dis u m') : Rel C { σ with ph := u :: σ.ph, m := m' } a w := by
  obtain ⟨loc, hF, hH⟩ := h
  have hmle : ∀ j, σ.m j = none → u j = none ∧ m' j = none := fun j hj => by
    rw [hm] at hj
    cases h1 : u j with
    | some o => simp [uni, h1] at hj
    | none => exact ⟨rfl, by simpa [uni, h1] using hj⟩
  have hule : ∀ j o, u j = some o → σ.m j = some o := fun j o hj => by rw [hm]; exact sub_uni_l _ _ j o hj
  have hm'le : ∀ j o, m' j = some o → σ.m j = some o := fun j o hj => by rw [hm]; exact sub_uni_r hd j o hj
  refine ⟨loc, hF.up fun u hu => List.mem_cons_of_mem _ hu, ⟨hH.kept, fun k y hk => ?_, hH.apart, fun k y b o c h1 h2 h3 => ?_, fun j o hj => hH.mle j o (hm'le j o hj), fun j hj => hH.mmine j (fun e => hj (hmle j e).2), fun u' hu => ?_⟩⟩
  · have hp := hH.pvs k y hk
    cases y with
    | box g => exact hp
    | row e z df xs => exact hp
    | ro z df xs =>
      refine ⟨hp.1, ?_⟩
      have hp2 := hp.2
      cases hl : loc k with
      | none => rw [hl] at hp2; exact hp2
      | some l =>
        obtain ⟨b, o, c⟩ := l
        rw [hl] at hp2
        obtain ⟨h1, hp3⟩ := hp2
        refine ⟨h1, fun hc => ?_⟩
        obtain ⟨u', cs, e, fz, hu, h2⟩ := hp3 hc
        exact ⟨u', cs, e, fz, hu.imp id (List.mem_cons_of_mem _), h2⟩
  · obtain ⟨e1, e2, e3⟩ := hH.priv k y b o c h1 h2 h3
    refine ⟨e1, (hmle b e2).2, fun u' hu => ?_⟩
    rcases List.mem_cons.1 hu with rfl | hu
    · exact (hmle b e2).1
    · exact e3 u' hu
  · rcases List.mem_cons.1 hu with rfl | hu
    · refine ⟨fun j o hj => hH.mle j o (hule j o hj), fun j hj => ⟨hH.mmine j (fun e => hj (hmle j e).1), (hd j).resolve_left hj⟩⟩
    · exact ⟨(hH.phs u' hu).1, fun j hj => ⟨((hH.phs u' hu).2 j hj).1, (hmle j ((hH.phs u' hu).2 j hj).2).2⟩⟩

theorem Rel.fr (h : Rel C σ a w) {fr : List (Nat × SV)} (hf : ∀ t x, look fr t = some x → look σ.fr t = some x) : Rel C { σ with fr := fr } a w := by
  obtain ⟨loc, hF, hH⟩ := h
  exact ⟨loc, ⟨hF.defers, hF.size, fun t x hx => hF.slots t x (hf t x hx)⟩, hH⟩
end


/-! ### Marks -/
section
variable {C : Ctx} {σ : SS} {K : KT}

/-- A nil slice as an own row without elements. -/
theorem gh_nil (t k : Nat) (e : TypeId) (z : Nat) (df : GV) (ht : look σ.fr t = some (.g (.s (.slice none 0 0)))) (hk : look σ.pv k = none) (hK : K ⟨(t, .row k 0 0) :: σ.fr, (k, .row e z df []) :: σ.pv, σ.ph, σ.m⟩) : ghC C K σ := by
  constructor
  intro a w hR
  refine ⟨_, ?_, hK⟩
  exact hR.own (e := e) (z := z) (u := PH.no) (m' := σ.m) (xs := []) k df ht hk ⟨(fun x hx => absurd hx (by simp)), .inl ⟨rfl, rfl⟩⟩ (uni_no _).symm (dis_no _)

/-- An own row, handed out. -/
theorem gh_pub (t k n : Nat) {e : TypeId} {z : Nat} {df : GV} {xs : List GV} (ht : look σ.fr t = some (.row k 0 n)) (hk : look σ.pv k = some (.row e z df xs)) (hn : n = xs.length)
    (hK : ∀ v u, v.oneCell' = true → SlO u v e z xs → dis u σ.m → K ⟨(t, .g (.s v)) :: kill k σ.fr, dropK k σ.pv, σ.ph, uni u σ.m⟩) : ghC C K σ := by
  constructor
  intro a w hR
  obtain ⟨v, u, h1, h2, h3, h4⟩ := hR.pub ht hk hn
  exact ⟨_, h4, hK v u h1 h2 h3⟩

/-- A slice of one's own memory, taken in. -/
theorem gh_own (t k : Nat) {v : Value} {e : TypeId} {z : Nat} (df : GV) {xs : List GV} {u m' : PH} (ht : look σ.fr t = some (.g (.s v))) (hk : look σ.pv k = none) (hs : SlO u v e z xs) (hm : σ.m = uni u m') (hd : dis u m')
    (hK : K ⟨(t, .row k 0 xs.length) :: σ.fr, (k, .row e z df xs) :: σ.pv, σ.ph, m'⟩) : ghC C K σ :=
  ⟨fun a w hR => ⟨_, hR.own k df ht hk hs hm hd, hK⟩⟩

/-- Memory of one's own, only read from now on. -/
theorem gh_frz {u m' : PH} (hm : σ.m = uni u m') (hd : dis u m') (hK : K { σ with ph := u :: σ.ph, m := m' }) : ghC C K σ :=
  ⟨fun a w hR => ⟨_, hR.frz hm hd, hK⟩⟩

end

/-! ### Loops over functions -/
/-- The loops over functions that code holds, in their order. -/
def rawsC : Code → List Code
  | .seq a b => rawsC a ++ rawsC b
  | .cond _ a b => rawsC a ++ rawsC b
  | .block _ a => rawsC a
  | .loop a => rawsC a
  | .scope a => rawsC a
  | .rangeFunc g ps a b => [.rangeFunc g ps a b]
  | _ => []
def rfPs : Code → Array Tmp
  | .rangeFunc _ ps _ _ => ps
  | _ => #[]
def rfAs : Code → Code
  | .rangeFunc _ _ a _ => a
  | _ => .skip
def rfBd : Code → Code
  | .rangeFunc _ _ _ b => b
  | _ => .skip
end Go.Proofs.YtmjiojflncffeaaGreat.Vc

/- The order of stamps, as the sort asks for it: walked with the kit's tactics. -/
set_option maxRecDepth 100000
namespace Go.Proofs.YtmjiojflncffeaaGreat.Vc
open Go Go.Proofs Go.Lib
theorem isNaN_i (n : Int) (w : World) : Calls Tryz.prog 118 #[.int .i64 n] w fun e w' => e = .returned (.bool false) ∧ w' = w := by
  go_enter Tryz.func118, Tryz.ntmps118
  go_wp2
  go_ret
  exact ⟨by simp, rfl⟩
theorem isNaN_n (n : Int) (w : World) : Calls Tryz.prog 119 #[.int .i64 n] w fun e w' => e = .returned (.bool false) ∧ w' = w := by
  go_enter Tryz.func119, Tryz.ntmps119
  go_wp2
  go_ret
  exact ⟨by simp, rfl⟩
set_option maxHeartbeats 1000000 in
theorem compare_i (x y : Int) (w : World) : Calls Tryz.prog 78 #[.int .i64 x, .int .i64 y] w fun e w' => e = .returned (.int .i64 (Lib.compareInt x y)) ∧ w' = w := by
  go_enter Tryz.func78, Tryz.ntmps78
  go_wp2_with (go_at_call 118; refine (isNaN_i _ _).mono ?_; rintro e w' ⟨rfl, hw⟩; rw [hw])
  all_goals (go_ret; refine ⟨?_, rfl⟩; unfold Lib.compareInt; (repeat' split) <;> first | rfl | (exfalso; omega))
set_option maxHeartbeats 1000000 in
theorem compare_n (x y : Int) (w : World) : Calls Tryz.prog 79 #[.int .i64 x, .int .i64 y] w fun e w' => e = .returned (.int .i64 (Lib.compareInt x y)) ∧ w' = w := by
  go_enter Tryz.func79, Tryz.ntmps79
  go_wp2_with (go_at_call 119; refine (isNaN_n _ _).mono ?_; rintro e w' ⟨rfl, hw⟩; rw [hw])
  all_goals (go_ret; refine ⟨?_, rfl⟩; unfold Lib.compareInt; (repeat' split) <;> first | rfl | (exfalso; omega))
def orV (a b : Int) : Int := if a = 0 then b else a
set_option maxHeartbeats 1000000 in
theorem or2 (a b : Int) (blk cap : Nat) (w : World) (h0 : w.cell? ⟨blk, 0, none⟩ = some (.int .i64 a)) (h1 : w.cell? ⟨blk, 1, none⟩ = some (.int .i64 b)) : Calls Tryz.prog 77 #[.slice (some ⟨blk, 0, none⟩) 2 cap] w fun e w' => e = .returned (.int .i64 (orV a b)) ∧ w' = w := by
  go_enter Tryz.func77, Tryz.ntmps77
  go_wp2
  refine wp_loop_rounds 3 ?_
  rw [rounds_succ]
  go_wp2
  · go_ret
    refine ⟨?_, rfl⟩
    simp_all [orV]
  · rw [rounds_succ]
    go_wp2
    · go_ret
      refine ⟨?_, rfl⟩
      simp_all [orV]
    · rw [rounds_succ]
      go_wp2
      go_ret
      refine ⟨?_, rfl⟩
      simp_all [orV]
open Go.Sort Go.Shelf
def HidE (p : Prop) : Prop := p
theorem new_blk (W : World) (o : Obj) : (W.alloc o).heap[W.heap.size]? = some o := Array.getElem?_push_size
theorem new_cell0 (W : World) (a b : Value) : (W.alloc (.cells #[a, b] 3)).cell? ⟨W.heap.size, 0, none⟩ = some a := by
  rw [World.cell?, new_blk]; rfl
theorem new_cell1 (W : World) (a b : Value) : (W.alloc (.cells #[a, b] 3)).cell? ⟨W.heap.size, 1, none⟩ = some b := by
  rw [World.cell?, new_blk]; rfl
theorem two_push {α : Type} (h : Array α) (a b : α) : (h.push a).push b = h ++ #[a, b] := by
  rw [Array.push_eq_append, Array.push_eq_append, Array.append_assoc]; rfl
theorem two_at0 {α : Type} (h : Array α) (a b : α) : (h ++ #[a, b])[h.size]? = some a := by
  rw [Array.getElem?_append_right (Nat.le_refl _)]; simp
theorem two_at1 {α : Type} (h : Array α) (a b : α) : (h ++ #[a, b])[h.size + 1]? = some b := by
  rw [Array.getElem?_append_right (by omega)]; simp
/-- The order of stamps. -/
def cmpSt (x y : Int × Int) : Int := orV (Lib.compareInt x.1 y.1) (Lib.compareInt x.2 y.2)
set_option maxHeartbeats 1000000 in
theorem compareSt (x y : Int × Int) (W : World) : Calls Tryz.prog 40 #[.agg #[.int .i64 x.1, .int .i64 x.2], .agg #[.int .i64 y.1, .int .i64 y.2]] W fun e w' => e = .returned (.int .i64 (cmpSt x y)) ∧ ∃ q os', w' = grow (W.drewN q) os' := by
  go_enter Tryz.func40, Tryz.ntmps40
  go_wp2_with (first | (go_at_call 78; refine (compare_i _ _ _).mono ?_; rintro e w' ⟨rfl, rfl⟩) | (go_at_call 79; refine (compare_n _ _ _).mono ?_; rintro e w' ⟨rfl, rfl⟩))
  refine wp_region_still_tail 10 (show Tryz.prog.follows .mixedOrders = true by kernel_rfl) (by kernel_rfl) ?_
  simp only [List.take_succ_cons, List.take_zero, List.drop_succ_cons, List.drop_zero]
  generalize hW1 : World.mk _ _ _ _ _ = W1
  have e1 : W1 = grow (W.drewN 1) #[.cells #[Value.int .i64 x.1, Value.int IntKind.i64 x.2] 24, .cells #[Value.int .i64 y.1, Value.int IntKind.i64 y.2] 24] := by
    rw [← hW1]
    show World.mk ((W.heap.push _).push _) _ _ _ _ = World.mk (W.heap ++ #[_, _]) _ _ _ _
    rw [two_push]
    rfl
  have b0 : W1.heap[W.heap.size]? = some (.cells #[Value.int .i64 x.1, Value.int IntKind.i64 x.2] 24) := by rw [e1]; exact two_at0 _ _ _
  have b1 : W1.heap[W.heap.size + 1]? = some (.cells #[Value.int .i64 y.1, Value.int IntKind.i64 y.2] 24) := by rw [e1]; exact two_at1 _ _ _
  clear hW1
  replace e1 : HidE _ := e1
  have c0 : W1.cell? ⟨W.heap.size, 0, none⟩ = some (.int .i64 x.1) := by simp [World.cell?, b0]
  have c1 : W1.cell? ⟨W.heap.size, 1, none⟩ = some (.int .i64 x.2) := by simp [World.cell?, b0]
  have c2 : W1.cell? ⟨W.heap.size + 1, 0, none⟩ = some (.int .i64 y.1) := by simp [World.cell?, b1]
  have c3 : W1.cell? ⟨W.heap.size + 1, 1, none⟩ = some (.int .i64 y.2) := by simp [World.cell?, b1]
  clear b0 b1
  repeat still_step
  still_call (compare_i x.1 y.1 W1)
  repeat still_step
  still_call (compare_n x.2 y.2 W1)
  repeat still_step
  refine wpStill_nil ?_
  go_wp2_with (go_at_call 77; refine (or2 (Lib.compareInt x.1 y.1) (Lib.compareInt x.2 y.2) W1.heap.size _ _ (new_cell0 _ _ _) (new_cell1 _ _ _)).mono ?_; rintro e w' ⟨rfl, rfl⟩)
  go_ret
  refine ⟨rfl, ?_⟩
  have e2 : W1 = _ := e1
  rw [alloc_eq_grow, e2, grow_grow]
  exact ⟨1, _, rfl⟩
end Go.Proofs.YtmjiojflncffeaaGreat.Vc

/- The comparators of the log's sorts, walked with the kit's tactics. -/
set_option maxRecDepth 100000
namespace Go.Proofs.YtmjiojflncffeaaGreat.Vc
open Go Go.Proofs Go.Lib Go.Sort Go.Shelf
theorem two_grow (W : World) (o1 o2 : Obj) (q : Nat) (os' : Array Obj) : grow (((W.alloc o1).alloc o2).drewN q) os' = grow (W.drewN q) (#[o1, o2] ++ os') := by
  show World.mk (((W.heap.push o1).push o2) ++ os') _ _ _ _ = World.mk (W.heap ++ (#[o1, o2] ++ os')) _ _ _ _
  rw [two_push, Array.append_assoc]
  rfl
set_option maxHeartbeats 1000000 in
theorem closure1 (t s k n p t' s' k' n' p' : Int) (a b c a' b' c' : ByteArray) (W : World) : Calls Tryz.prog 39 #[.agg #[.int .i64 t, .int .i64 s, .int .i64 k, .int .i64 n, .int .i64 p, .string a, .string b, .string c], .agg #[.int .i64 t', .int .i64 s', .int .i64 k', .int .i64 n', .int .i64 p', .string a', .string b', .string c']] W fun e w' => e = .returned (.int .i64 (cmpSt (t, s) (t', s'))) ∧ ∃ q os', w' = grow (W.drewN q) os' := by
  go_enter Tryz.func39, Tryz.ntmps39
  go_wp2_with (go_at_call 40; refine (compareSt (t, s) (t', s') _).mono ?_; rintro e w' ⟨rfl, q, os', hw⟩)
  go_ret
  refine ⟨rfl, ?_⟩
  rw [two_grow]
  exact ⟨q, _, rfl⟩
set_option maxHeartbeats 2000000 in
theorem closure2 (t s k n p t' s' k' n' p' : Int) (a b c a' b' c' : ByteArray) (tk tk' : Bool) (of of' : Value) (ix ix' : Int) (ut us uk un up ut' us' uk' un' up' : Int) (ua ub uc ua' ub' uc' : ByteArray) (wp wp' : Int) (wn wn' at' at2 : ByteArray) (W : World) :
    Calls Tryz.prog 46 #[.agg #[.int .i64 t, .int .i64 s, .int .i64 k, .int .i64 n, .int .i64 p, .string a, .string b, .string c, .bool tk, of, .int .i64 ix, .int .i64 ut, .int .i64 us, .int .i64 uk, .int .i64 un, .int .i64 up, .string ua, .string ub, .string uc, .int .i64 wp, .string wn, .string at'],
      .agg #[.int .i64 t', .int .i64 s', .int .i64 k', .int .i64 n', .int .i64 p', .string a', .string b', .string c', .bool tk', of', .int .i64 ix', .int .i64 ut', .int .i64 us', .int .i64 uk', .int .i64 un', .int .i64 up', .string ua', .string ub', .string uc', .int .i64 wp', .string wn', .string at2]] W
      fun e w' => e = .returned (.int .i64 (cmpSt (t, s) (t', s'))) ∧ ∃ q os', w' = grow (W.drewN q) os' := by
  go_enter Tryz.func46, Tryz.ntmps46
  go_wp2_with (go_at_call 40; refine (compareSt (t, s) (t', s') _).mono ?_; rintro e w' ⟨rfl, q, os', hw⟩)
  go_ret
  refine ⟨rfl, ?_⟩
  rw [two_grow]
  exact ⟨q, _, rfl⟩
end Go.Proofs.YtmjiojflncffeaaGreat.Vc

