/- Maps: what the operations on them do. -/
import Derived.Test.YtdpknchgoeboaaaVc5c
set_option linter.unusedVariables false
set_option linter.unusedSimpArgs false
namespace Go.Proofs.Ytdpknchgoeboaaa.Vc
open Go

theorem nodup_of_map {α β : Type} (f : α → β) : ∀ {l : List α}, (l.map f).Nodup → l.Nodup
  | [], _ => List.nodup_nil
  | x :: l, h => by
    rw [List.map_cons, List.nodup_cons] at h
    exact List.nodup_cons.2 ⟨fun hx => h.1 (List.mem_map.2 ⟨x, hx, rfl⟩), nodup_of_map f h.2⟩
theorem inj_of_nodup {α β : Type} {f : α → β} : ∀ {l : List α}, (l.map f).Nodup → ∀ {x y : α}, x ∈ l → y ∈ l → f x = f y → x = y
  | [], _, x, y, hx, _, _ => by simp at hx
  | z :: l, h, x, y, hx, hy, he => by
    rw [List.map_cons, List.nodup_cons] at h
    rcases List.mem_cons.1 hx with hx | hx
    · rcases List.mem_cons.1 hy with hy | hy
      · rw [hx, hy]
      · exact (h.1 (List.mem_map.2 ⟨y, hy, by rw [← he, hx]⟩)).elim
    · rcases List.mem_cons.1 hy with hy | hy
      · exact (h.1 (List.mem_map.2 ⟨x, hx, by rw [he, hy]⟩)).elim
      · exact inj_of_nodup h.2 hx hy he
theorem erase_map {α β : Type} (f : α → β) : ∀ (l : List α) (j : Nat), (l.eraseIdx j).map f = (l.map f).eraseIdx j
  | [], _ => rfl
  | _ :: _, 0 => rfl
  | x :: l, j + 1 => by simp [List.eraseIdx_cons_succ, erase_map f l j]

theorem keq_iff {kd : Option IntKind} {a b : Value} (ha : MapKept.IsKey (mkD kd) a) (hb : MapKept.IsKey (mkD kd) b) : keq a b = true ↔ a = b := by
  cases kd <;> cases a <;> cases b <;> simp_all [MapKept.IsKey, mkD, keq]

theorem find_m {kd : Option IntKind} {k : Value} (hk : MapKept.IsKey (mkD kd) k) : ∀ (l : List MapEntry) (i : Nat), (∀ x ∈ l, MapKept.IsKey (mkD kd) x.key) →
    (Instr.findNow (mkD kd) k l i = some none ∧ (∀ x ∈ l, x.key ≠ k) ∧ mget (l.map kv) k = none ∧ (∀ y, mput (l.map kv) k y = l.map kv ++ [(k, y)]) ∧ mdel (l.map kv) k = l.map kv) ∨
    ∃ j e, Instr.findNow (mkD kd) k l i = some (some (i + j, e.val)) ∧ l[j]? = some e ∧ e.key = k ∧ mget (l.map kv) k = some e.val ∧ (∀ y, mput (l.map kv) k y = (l.map kv).set j (k, y)) ∧ mdel (l.map kv) k = (l.map kv).eraseIdx j
  | [], i, _ => .inl ⟨rfl, by simp, rfl, fun _ => rfl, rfl⟩
  | e :: l, i, h => by
    have he := h e (by simp)
    obtain ⟨r, hr, hiff⟩ := MapKept.sameNow_of_keys hk he
    cases r with
    | true =>
      have hek : e.key = k := (hiff.1 rfl).symm
      have hq : keq e.key k = true := (keq_iff he hk).2 hek
      exact .inr ⟨0, e, by simp [Instr.findNow, hr], rfl, hek, by simp [mget, kv, hq], fun y => by simp [mput, kv, hq], by simp [mdel, kv, hq]⟩
    | false =>
      have hne : e.key ≠ k := fun q => by have := hiff.2 q.symm; cases this
      have hq : keq e.key k = false := by
        cases h : keq e.key k with
        | false => rfl
        | true => exact absurd ((keq_iff he hk).1 h) hne
      rcases find_m hk l (i + 1) (fun x hx => h x (by simp [hx])) with ⟨h1, h2, h3, h4, h5⟩ | ⟨j, e', h1, h2, h3, h4, h5, h6⟩
      · refine .inl ⟨by simp [Instr.findNow, hr, h1], ?_, by simp [mget, kv, hq]; simpa [kv] using h3, fun y => ?_, ?_⟩
        · intro x hx
          rcases List.mem_cons.1 hx with rfl | hx
          · exact hne
          · exact h2 x hx
        · have := h4 y
          simp only [List.map_cons, kv, mput, hq, cond_false, List.cons_append]
          rw [this]
        · simp only [List.map_cons, kv, mdel, hq, cond_false]
          rw [h5]
      · refine .inr ⟨j + 1, e', by simp [Instr.findNow, hr, h1]; omega, by simpa using h2, h3, ?_, fun y => ?_, ?_⟩
        · simp only [List.map_cons, kv, mget, hq, cond_false]
          simpa [kv] using h4
        · have := h5 y
          simp only [List.map_cons, kv, mput, hq, cond_false, List.set_cons_succ]
          rw [this]
        · simp only [List.map_cons, kv, mdel, hq, cond_false, List.eraseIdx_cons_succ]
          rw [h6]

theorem mapT_spec {P : Program} {t : TypeId} {kd : Option IntKind} {z : Option Value} (h : mapT P t = some (kd, z)) :
    ∃ k e, P.underlying t = some (.map k e) ∧ P.underlying k = some (mkD kd) ∧ ∀ v, z = some v → v.oneCell' = true ∧ ∃ i, P.info? e = some i ∧ i.zero = some v := by
  unfold mapT at h
  split at h <;> first | (cases h; done) | skip
  rename_i k e hm
  have zz : ∀ v, (match (P.info? e).bind (·.zero) with | some z => if z.oneCell' then some z else none | none => none) = some v → v.oneCell' = true ∧ ∃ i, P.info? e = some i ∧ i.zero = some v := by
    intro v hv
    split at hv
    · rename_i z' hz'
      split at hv
      · rename_i h1
        simp at hv; subst hv
        obtain ⟨i, hi, hz⟩ := Option.bind_eq_some_iff.mp hz'
        exact ⟨h1, i, hi, hz⟩
      · cases hv
    · cases hv
  split at h <;> first | (cases h; done) | skip
  · rename_i kd' hk
    simp only [Option.some.injEq, Prod.mk.injEq] at h
    obtain ⟨rfl, rfl⟩ := h
    exact ⟨k, e, hm, hk, zz⟩
  · rename_i hk
    simp only [Option.some.injEq, Prod.mk.injEq] at h
    obtain ⟨rfl, rfl⟩ := h
    exact ⟨k, e, hm, hk, zz⟩

theorem mget_one {kd : Option IntKind} {o : Obj} {l : List (Value × Value)} (h : MapI kd o l) {k v : Value} (hv : mget l k = some v) : v.oneCell' = true := by
  obtain ⟨es, cl, rfl, rfl, _, hx⟩ := h
  have key : ∀ (l : List MapEntry), (∀ e ∈ l, e.val.oneCell' = true) → mget (l.map kv) k = some v → v.oneCell' = true := by
    intro l
    induction l with
    | nil => intro _ h; cases h
    | cons e l ih =>
      intro he h
      simp only [List.map_cons, kv, mget] at h
      cases hq : keq e.key k with
      | true => rw [hq] at h; simp at h; subst h; exact he e (by simp)
      | false => rw [hq] at h; exact ih (fun x hx => he x (by simp [hx])) (by simpa [kv] using h)
  exact key es.toList (fun e he => (hx e he).2) hv

section
variable {C : Ctx} {loc : Loc} {σ : SS} {a : Act} {o : Oper} {w : World} {K : KT} {Q : Exit → Act → World → Prop}

theorem HR.seenO {pv : List (Nat × PV)} {ph : List PH} {m : PH} (hH : HR C loc pv ph m w) {b : Nat} {ob : Obj} (hs : SeenO C ph m b ob) : w.heap[b]? = some ob := by
  rcases hs with h | ⟨u, hu, h⟩ | h
  · exact hH.mle b _ h
  · exact (hH.phs u hu).1 b _ h
  · exact hH.u0le b _ h

theorem isPure_lookup {P : Program} {o : Oper} {t : TypeId} {x i : Operand} {ok : Bool} (ho : o.op = .lookup t x i ok) : isPure (cOp P o) = false := by
  unfold cOp cOp?
  rw [ho]
  simp only
  split <;> rfl
theorem isPure_entry {P : Program} {o : Oper} {x : Operand} (ho : o.op = .entry x) : isPure (cOp P o) = false := by
  unfold cOp cOp?
  rw [ho]
  simp only
  cases cOpd x <;> rfl
theorem isPure_lenM {P : Program} {o : Oper} {c : Call} {x : Operand} {t k e : TypeId} (ho : o.op = .call c) (hc : c.callee = .builtin .len) (ha : c.args.toList = [x]) (ht : c.argTypes[0]? = some t) (hu : P.underlying t = some (.map k e)) : isPure (cOp P o) = false := by
  unfold cOp cOp?
  rw [ho]
  simp only [hc, ha, ht, hu]
  split <;> rfl

theorem rd_mlk {t : TypeId} {x i : Operand} {x' i' : Opd} {ok : Bool} {kd : Option IntKind} {z : Value} (ho : o.op = .lookup t x i ok) (hT : mapT C.P t = some (kd, some z)) (hx : cOpd x = some x') (hi : cOpd i = some i') (hF : FR loc C.N σ.fr σ.pv a)
    {b : Nat} {k : Value} (e1 : ev σ x' = some (.g (.s (.map (some b))))) (e2 : ev σ i' = some (.g (.s k))) {ob : Obj} {l : List (Value × Value)} (hs : SeenO C σ.ph σ.m b ob) (hI : MapI kd ob l) (hk : MapKept.IsKey (mkD kd) k) :
    Reads C loc σ o a (lkS l k z ok) := by
  have h1 := (hF.ev rfl e1).s
  have h2 := (hF.ev rfl e2).s
  obtain ⟨kt, et, hm, hkt, hz⟩ := mapT_spec hT
  obtain ⟨hz1, inf, hinf, hz2⟩ := hz z rfl
  have hvo : ((mget l k).getD z).oneCell' = true := by
    cases hg : mget l k with
    | none => exact hz1
    | some v => exact mget_one hI hg
  have hrun : ∀ w, HR C loc σ.pv σ.ph σ.m w → (Instr.lookup t (.map (some b)) k ok).run C.P w = .ok (if ok then .tuple #[(mget l k).getD z, .bool (mget l k).isSome] else (mget l k).getD z) w := by
    intro w hw
    obtain ⟨es, cl, rfl, rfl, hst, hks⟩ := hI
    have hb := hw.seenO hs
    have hzr : ∀ w, (zeroValue et).run C.P w = .ok z w := fun w => by simp [zeroValue, Sem.run_bind, run_typeInfo hinf, hz2]
    rcases find_m hk es.toList 0 (fun e he => (hks e he).1) with ⟨g1, _, g3, _⟩ | ⟨j, e, g1, _, _, g4, _⟩
    · cases ok <;> simp [Instr.lookup, Sem.run_bind, run_underlying' hm, MapKept.run_getObj_map hb, MapKept.run_checkKey hkt hk, MapKept.run_findKey hkt g1, hzr, g3]
    · cases ok <;> simp [Instr.lookup, Sem.run_bind, run_underlying' hm, MapKept.run_getObj_map hb, MapKept.run_checkKey hkt hk, MapKept.run_findKey hkt g1, hzr, g4]
  refine rd_valL (isPure_lookup ho) (s := Instr.lookup t (.map (some b)) k ok) (v := if ok then .tuple #[(mget l k).getD z, .bool (mget l k).isSome] else (mget l k).getD z) ?_ (by simp only [execOp, ho, cOpd_eval hx a, cOpd_eval hi a, h1, h2]) fun w hw => hrun w hw
  cases ok with
  | true => exact ⟨fun y hy => by simp at hy; rcases hy with rfl | rfl; exact hvo; rfl, rfl⟩
  | false => exact ⟨hvo, rfl⟩

theorem rd_mln {c : Call} {x : Operand} {y : Opd} {t : TypeId} {kd : Option IntKind} {z : Option Value} (ho : o.op = .call c) (hc : c.callee = .builtin .len) (ha : c.args.toList = [x]) (ht : c.argTypes[0]? = some t) (hT : mapT C.P t = some (kd, z))
    (hx : cOpd x = some y) (hF : FR loc C.N σ.fr σ.pv a) {b : Nat} (e1 : ev σ y = some (.g (.s (.map (some b))))) {ob : Obj} {l : List (Value × Value)} (hs : SeenO C σ.ph σ.m b ob) (hI : MapI kd ob l) : Reads C loc σ o a (.g (.s (.int .i64 l.length))) := by
  obtain ⟨kt, et, hm, hkt, _⟩ := mapT_spec hT
  have h1 := (hF.ev rfl e1).s
  refine rd_valL (isPure_lenM ho hc ha ht hm) (s := Builtin.len_ c.argTypes o.type (c.args.map a.eval)) (v := .int .i64 l.length) ⟨rfl, rfl⟩ (by rw [exec_builtin ho hc]; rfl) fun w hw => ?_
  obtain ⟨es, cl, rfl, rfl, hst, hks⟩ := hI
  have hb := hw.seenO hs
  rw [args_one ha]
  simp [Builtin.len_, ht, Sem.run_bind, run_underlying' hm, cOpd_eval hx a, h1, goInt, MapKept.run_getObj_map hb]
theorem rd_mln0 {c : Call} {x : Operand} {y : Opd} {t : TypeId} {kd : Option IntKind} {z : Option Value} (ho : o.op = .call c) (hc : c.callee = .builtin .len) (ha : c.args.toList = [x]) (ht : c.argTypes[0]? = some t) (hT : mapT C.P t = some (kd, z))
    (hx : cOpd x = some y) (hF : FR loc C.N σ.fr σ.pv a) (e1 : ev σ y = some (.g (.s (.map none)))) : Reads C loc σ o a (.g (.s (.int .i64 0))) := by
  obtain ⟨kt, et, hm, hkt, _⟩ := mapT_spec hT
  have h1 := (hF.ev rfl e1).s
  refine rd_val (s := Builtin.len_ c.argTypes o.type (c.args.map a.eval)) (v := .int .i64 0) ⟨rfl, rfl⟩ (by rw [exec_builtin ho hc]; rfl) fun w => ?_
  rw [args_one ha]
  simp [Builtin.len_, ht, Sem.run_bind, run_underlying' hm, cOpd_eval hx a, h1, goInt]

theorem iter_last {it mo : Obj} {b : Nat} {s : List (Value × Value)} {p : Value × Value} (h : IterM it mo b (s ++ [p])) : ∃ (es : Array MapEntry) (cl : Nat) (vs : List MapEntry) (e : MapEntry), mo = .map es cl ∧ it = .mapIter (some b) cl ((vs.map (·.born)).toArray.push e.born) cl ∧ e ∈ es.toList ∧ kv e = p := by
  obtain ⟨es, cl, vs, rfl, rfl, h1, h2, h3⟩ := h
  rcases List.eq_nil_or_concat vs with rfl | ⟨vs0, e, rfl⟩
  · simp at h3
  · simp only [List.concat_eq_append, List.map_append, List.map_cons, List.map_nil] at h3
    obtain ⟨_, h5⟩ := List.append_inj' h3 rfl
    refine ⟨es, cl, vs0, e, rfl, ?_, h1 e (by simp), by simpa using h5.symm⟩
    simp [List.concat_eq_append]

theorem rd_ent {x : Operand} {y : Opd} (ho : o.op = .entry x) (hx : cOpd x = some y) (hF : FR loc C.N σ.fr σ.pv a) {r : Nat} (e1 : ev σ y = some (.g (.s (.pointer (some ⟨r, 0, none⟩))))) {it ob : Obj} {b : Nat} {kd : Option IntKind} {l s : List (Value × Value)} {p : Value × Value}
    (hi : SeenO C σ.ph σ.m r it) (hs : SeenO C σ.ph σ.m b ob) (hI : MapI kd ob l) (hit : IterM it ob b (s ++ [p])) : Reads C loc σ o a (.tup [.s p.1, .s p.2]) := by
  have h1 := (hF.ev rfl e1).s
  obtain ⟨es, cl, vs, e, rfl, rfl, he, rfl⟩ := iter_last hit
  obtain ⟨es', cl', heq, rfl, hst, hks⟩ := hI
  obtain ⟨rfl, rfl⟩ : es = es' ∧ cl = cl' := by simpa using heq
  have hke := hks e he
  have hk1 : e.key.oneCell' = true := by
    have := hke.1
    cases kd <;> cases h : e.key <;> simp_all [MapKept.IsKey, mkD, Value.oneCell']
  refine rd_valL (isPure_entry ho) (s := Instr.entry (.pointer (some ⟨r, 0, none⟩))) (v := .tuple #[e.key, e.val]) ⟨fun y hy => ?_, rfl⟩ (by simp only [execOp, ho, cOpd_eval hx a, h1]) fun w hw => ?_
  · simp [kv] at hy
    rcases hy with rfl | rfl
    · exact hk1
    · exact hke.2
  · exact run_entry_at w r b cl _ es cl e (hw.seenO hi) (hw.seenO hs) he hst.2.1

/-! ### Writing -/
theorem wp_mem {b : Nat} {ob ob' : Obj} {x : SV} {v : Value} {w1 : World} (hd : ∀ t, o.dst = some t → t < C.N) (hrun : (execOp a.eval o).run C.P w = .ok (.value v) (w1.setBlk b ob') ∨ ((execOp a.eval o).run C.P w = .ok .skip (w1.setBlk b ob') ∧ v = undef)) (hw1 : HR C loc σ.pv σ.ph σ.m w1) (hF : FR loc C.N σ.fr σ.pv a)
    (hm : σ.m b = some ob) (hv : SVr loc σ.pv x v) (hK : K ({ σ with m := σ.m.upd b ob' }.put o.dst x)) : o.wp C.P a w (liftK C K) Q := by
  have hH' := hw1.memw (ob' := ob') hm
  obtain ⟨q1, q2, q3⟩ := ({ σ with m := σ.m.upd b ob' } : SS).put_pv o.dst x
  have fin : ∀ u, u = v → liftK C K (a.put o.dst u) (w1.setBlk b ob') := by
    rintro u rfl
    refine ⟨_, hK, loc, ?_, by rw [q1, q2, q3]; exact hH'⟩
    rw [q1]
    exact hF.put (σ := { σ with m := σ.m.upd b ob' }) hd rfl hv
  unfold Oper.wp
  rcases hrun with h | ⟨h, rfl⟩
  · rw [h, Oper.upon_value]; exact fin v rfl
  · rw [h, Oper.upon_skip]; exact fin _ rfl

theorem HR.allocm {pv : List (Nat × PV)} {ph : List PH} {m : PH} (hH : HR C loc pv ph m w) (ob : Obj) : HR C loc pv ph (uni (one w.heap.size ob) m) (w.alloc ob) ∧ dis (one w.heap.size ob) m := by
  have hW := hH.kept.2.2.2.1
  have hle : ∀ (u : PH), u.le w → u.le (w.alloc ob) := fun u hu j o hj => by
    have := hu j o hj
    rw [alloc_old (Array.getElem?_eq_some_iff.1 this).1]; exact this
  have hne : ∀ (u : PH), u.le w → u w.heap.size = none := fun u hu => by
    cases hh : u w.heap.size with
    | none => rfl
    | some o => have := hu _ _ hh; simp at this
  have hdis : dis (one w.heap.size ob) m := fun k => by
    by_cases hk : k = w.heap.size
    · subst hk; exact .inr (hne m hH.mle)
    · exact .inl (by simp [one, hk])
  have hother : ∀ k, k ≠ w.heap.size → uni (one w.heap.size ob) m k = m k := fun k hk => by simp [uni, one, hk]
  refine ⟨⟨?_, ?_, hH.apart, ?_, ?_, ?_, fun u hu => ⟨hle _ (hH.phs u hu).1, fun k hk => ?_⟩⟩, hdis⟩
  · obtain ⟨h1, h2, h3, h4, h5⟩ := hH.kept
    exact ⟨h1, h2, h3, by simp; omega, fun j hj hm => by rw [alloc_old (by omega)]; exact h5 j hj hm⟩
  · intro j y' hj
    have hp := hH.pvs j y' hj
    cases y' with
    | box g' =>
      obtain ⟨h0, b', c', e', hl', hb⟩ := hp
      exact ⟨h0, b', c', e', hl', by rw [alloc_old (Array.getElem?_eq_some_iff.1 hb).1]; exact hb⟩
    | row e' z df xs =>
      refine ⟨hp.1, ?_⟩
      have hp2 := hp.2
      cases hl : loc j with
      | none => rw [hl] at hp2; exact hp2
      | some l =>
        obtain ⟨b, o, c⟩ := l
        rw [hl] at hp2
        obtain ⟨cs, hb, hr⟩ := hp2
        exact ⟨cs, by rw [alloc_old (Array.getElem?_eq_some_iff.1 hb).1]; exact hb, hr⟩
    | ro z df xs => exact hp
  · intro j y1 b o c h1 h2 h3
    obtain ⟨e1, e2, e3⟩ := hH.priv j y1 b o c h1 h2 h3
    have hlt := hH.own_lt h1 h2 h3
    exact ⟨e1, by rw [hother b (by omega)]; exact e2, e3⟩
  · intro k x hk
    by_cases hks : k = w.heap.size
    · subst hks
      have : x = ob := by simpa [uni, one] using hk.symm
      subst this
      exact alloc_new
    · rw [hother k hks] at hk
      exact hle m hH.mle k x hk
  · intro k hk
    by_cases hks : k = w.heap.size
    · subst hks; exact .inl hW
    · rw [hother k hks] at hk
      exact hH.mmine k hk
  · have hks : k ≠ w.heap.size := fun e => by subst e; exact hk (hne u (hH.phs u hu).1)
    rw [hother k hks]
    exact (hH.phs u hu).2 k hk

theorem wp_allocm {ob : Obj} {x : SV} {v : Value} (hd : ∀ t, o.dst = some t → t < C.N) (hrun : (execOp a.eval o).run C.P w = .ok (.value v) (w.alloc ob)) (hH : HR C loc σ.pv σ.ph σ.m w) (hF : FR loc C.N σ.fr σ.pv a)
    (hv : SVr loc σ.pv x v) (hK : dis (one w.heap.size ob) σ.m → K ({ σ with m := uni (one w.heap.size ob) σ.m }.put o.dst x)) : o.wp C.P a w (liftK C K) Q := by
  obtain ⟨hH', hdis⟩ := hH.allocm ob
  obtain ⟨q1, q2, q3⟩ := ({ σ with m := uni (one w.heap.size ob) σ.m } : SS).put_pv o.dst x
  unfold Oper.wp
  rw [hrun, Oper.upon_value]
  refine ⟨_, hK hdis, loc, ?_, by rw [q1, q2, q3]; exact hH'⟩
  rw [q1]
  exact hF.put (σ := { σ with m := uni (one w.heap.size ob) σ.m }) hd rfl hv

theorem run_value' {P : Program} {s : Sem Value} {w w' : World} {v : Value} (h : s.run P w = .ok v w') : (do pure (.value (← s)) : Sem Next).run P w = .ok (.value v) w' := by
  simp [Sem.run_bind, h]

theorem wp_mkm {t : TypeId} (ho : o.op = .makeMap t none) (hd : ∀ t, o.dst = some t → t < C.N) (hF : FR loc C.N σ.fr σ.pv a) (hH : HR C loc σ.pv σ.ph σ.m w) (h : mkmK o.dst K σ) : o.wp C.P a w (liftK C K) Q := by
  refine wp_allocm (ob := .map #[] 0) (x := .g (.s (.map (some w.heap.size)))) (v := .map (some w.heap.size)) hd ?_ hH hF ⟨rfl, rfl⟩ fun hdis => h _ _ (fun kd => ⟨#[], 0, rfl, rfl, MapKept.stamped_empty 0, by simp⟩) hdis
  simp only [execOp, ho, Option.map_none]
  exact run_value' rfl

theorem stamped_set {es : Array MapEntry} {cl : Nat} (h : MapKept.Stamped es cl) {j : Nat} {e : MapEntry} (hj : es.toList[j]? = some e) {k y : Value} (hk : e.key = k) : MapKept.Stamped (es.modify j fun e => { e with key := k, val := y }) cl := by
  refine MapKept.stamped_modify h j _ (fun _ _ => rfl) fun e' _ he' => ?_
  rw [Array.getElem?_toList, he'] at hj
  simp at hj; subst hj
  exact hk.symm

theorem wp_mup {t : TypeId} {x i v : Operand} {x' i' v' : Opd} {kd : Option IntKind} {z : Option Value} (ho : o.op = .mapUpdate t x i v ∨ o.op = .insert t x i v) (hT : mapT C.P t = some (kd, z)) (hx : cOpd x = some x') (hi : cOpd i = some i') (hv : cOpd v = some v') (hd : ∀ t, o.dst = some t → t < C.N)
    (hF : FR loc C.N σ.fr σ.pv a) (hH : HR C loc σ.pv σ.ph σ.m w) {b : Nat} {k y : Value} (e1 : ev σ x' = some (.g (.s (.map (some b))))) (e2 : ev σ i' = some (.g (.s k))) (e3 : ev σ v' = some (.g (.s y))) (h : mupK kd b k y o.dst K σ) : o.wp C.P a w (liftK C K) Q := by
  obtain ⟨kt, et, hm, hkt, _⟩ := mapT_spec hT
  have h1 := (hF.ev rfl e1).s
  have h2 := (hF.ev rfl e2).s
  obtain ⟨h3o, h3⟩ := hF.ev rfl e3
  simp only [GV.val] at h3
  have hyo : y.oneCell' = true := h3o
  obtain ⟨ob, l, hmb, ⟨es, cl, rfl, rfl, hst, hks⟩, hk, hK⟩ := h
  have hb := hH.mle b _ hmb
  have hex : (execOp a.eval o) = (do Instr.mapUpdate t (.map (some b)) k y; pure .skip : Sem Next) := by
    rcases ho with ho | ho <;> simp only [execOp, ho, cOpd_eval hx a, cOpd_eval hi a, cOpd_eval hv a, h1, h2, h3]
  rcases find_m hk es.toList 0 (fun e he => (hks e he).1) with ⟨g1, g2, _, g4, _⟩ | ⟨j, e, g1, g2, g3, _, g5, _⟩
  · refine wp_mem (ob' := .map (es.push { key := k, val := y, born := cl }) (cl + 1)) (x := .no) (v := undef) (w1 := w) hd (.inr ⟨?_, rfl⟩) hH hF hmb rfl (hK _ ⟨_, _, rfl, ?_, MapKept.stamped_push hst g2, ?_⟩)
    · rw [hex]
      simp [Instr.mapUpdate, Sem.run_bind, run_underlying' hm, MapKept.run_getObj_map hb, MapKept.run_checkKey hkt hk, MapKept.run_findKey hkt g1, MapKept.run_setObj_map _ hb, World.setBlk]
    · rw [g4 y]; simp [kv]
    · intro e he
      simp only [Array.toList_push, List.mem_append, List.mem_singleton] at he
      rcases he with he | rfl
      · exact hks e he
      · exact ⟨hk, hyo⟩
  · have hj : es[0 + j]? = some e := by rw [Nat.zero_add, ← Array.getElem?_toList]; exact g2
    refine wp_mem (ob' := .map (es.modify j fun e => { e with key := k, val := y }) cl) (x := .no) (v := undef) (w1 := w) hd (.inr ⟨?_, rfl⟩) hH hF hmb rfl (hK _ ⟨_, _, rfl, ?_, stamped_set hst g2 g3, ?_⟩)
    · rw [hex]
      have hst' : (Instr.keyThatStays k k).run C.P w = .ok k w := MapKept.run_keyThatStays hk
      rw [Nat.zero_add] at g1 hj
      simp [Instr.mapUpdate, Sem.run_bind, run_underlying' hm, MapKept.run_getObj_map hb, MapKept.run_checkKey hkt hk, MapKept.run_findKey hkt g1, MapKept.run_setObj_map _ hb, World.setBlk, hj, g3, hst']
    · rw [g5 y]
      apply List.ext_getElem?
      intro q
      simp only [List.getElem?_map, Array.getElem?_toList, Array.getElem?_modify, List.getElem?_set, List.length_map, Array.length_toList]
      by_cases hq : j = q
      · subst hq
        have hlt : j < es.size := by
          have := (List.getElem?_eq_some_iff.1 g2).1
          simpa using this
        rw [Array.getElem?_toList] at g2
        simp [g2, hlt, kv]
      · simp [hq]
    · intro e' he'
      rw [Array.mem_toList_iff, Array.mem_iff_getElem?] at he'
      obtain ⟨q, hq⟩ := he'
      rw [Array.getElem?_modify] at hq
      split at hq
      · cases hq2 : es[q]? with
        | none => rw [hq2] at hq; simp at hq
        | some e2 => rw [hq2] at hq; simp at hq; subst hq; exact ⟨hk, hyo⟩
      · exact hks e' (by rw [Array.mem_toList_iff]; exact Array.mem_of_getElem? hq)

theorem wp_mdl {c : Call} {x i : Operand} {x' i' : Opd} {t : TypeId} {kd : Option IntKind} {z : Option Value} (ho : o.op = .call c) (hc : c.callee = .builtin .delete) (ha : c.args.toList = [x, i]) (ht : c.argTypes[0]? = some t) (hT : mapT C.P t = some (kd, z)) (hx : cOpd x = some x') (hi : cOpd i = some i') (hd : ∀ t, o.dst = some t → t < C.N)
    (hF : FR loc C.N σ.fr σ.pv a) (hH : HR C loc σ.pv σ.ph σ.m w) {b : Nat} {k : Value} (e1 : ev σ x' = some (.g (.s (.map (some b))))) (e2 : ev σ i' = some (.g (.s k))) (h : mdlK kd b k o.dst K σ) : o.wp C.P a w (liftK C K) Q := by
  obtain ⟨kt, et, hm, hkt, _⟩ := mapT_spec hT
  have h1 := (hF.ev rfl e1).s
  have h2 := (hF.ev rfl e2).s
  obtain ⟨ob, l, hmb, ⟨es, cl, rfl, rfl, hst, hks⟩, hk, hK⟩ := h
  have hb := hH.mle b _ hmb
  have hex : execOp a.eval o = (do pure (.value (← Builtin.delete_ c.argTypes o.type #[.map (some b), k])) : Sem Next) := by
    rw [exec_builtin ho hc, args_two ha]
    simp only [List.map_toArray, List.map_cons, List.map_nil, cOpd_eval hx a, cOpd_eval hi a, h1, h2]
    rfl
  rcases find_m hk es.toList 0 (fun e he => (hks e he).1) with ⟨g1, g2, _, _, g5⟩ | ⟨j, e, g1, g2, g3, _, _, g6⟩
  · refine wp_mem (ob' := .map es cl) (x := .tup []) (v := .tuple #[]) (w1 := w) hd (.inl ?_) hH hF hmb ⟨by simp, rfl⟩ (hK _ ⟨es, cl, rfl, by rw [g5], hst, hks⟩)
    rw [hex]
    refine run_value' ?_
    simp [Builtin.delete_, ht, Sem.run_bind, run_underlying' hm, MapKept.run_getObj_map hb, MapKept.run_checkKey hkt hk, MapKept.run_findKey hkt g1, MapKept.run_setObj_map _ hb, World.setBlk]
  · refine wp_mem (ob' := .map (es.eraseIdxIfInBounds j) cl) (x := .tup []) (v := .tuple #[]) (w1 := w) hd (.inl ?_) hH hF hmb ⟨by simp, rfl⟩ (hK _ ⟨_, cl, rfl, ?_, MapKept.stamped_erase hst j, ?_⟩)
    · rw [hex]
      refine run_value' ?_
      rw [Nat.zero_add] at g1
      simp [Builtin.delete_, ht, Sem.run_bind, run_underlying' hm, MapKept.run_getObj_map hb, MapKept.run_checkKey hkt hk, MapKept.run_findKey hkt g1, MapKept.run_setObj_map _ hb, World.setBlk]
    · rw [g6]
      have hlt : j < es.size := by
        have := (List.getElem?_eq_some_iff.1 g2).1
        simpa using this
      unfold Array.eraseIdxIfInBounds
      rw [dif_pos hlt, Array.toList_eraseIdx, erase_map]
    · intro e' he'
      refine hks e' ?_
      unfold Array.eraseIdxIfInBounds at he'
      split at he'
      · rw [Array.toList_eraseIdx] at he'
        exact (List.eraseIdx_sublist _ _).subset he'
      · exact he'

theorem wp_rng {t : TypeId} {x : Operand} {x' : Opd} {kd : Option IntKind} {z : Option Value} (ho : o.op = .range t x) (hT : mapT C.P t = some (kd, z)) (hx : cOpd x = some x') (hd : ∀ t, o.dst = some t → t < C.N)
    (hF : FR loc C.N σ.fr σ.pv a) (hH : HR C loc σ.pv σ.ph σ.m w) {b : Nat} (e1 : ev σ x' = some (.g (.s (.map (some b))))) (h : rngK C kd b o.dst K σ) : o.wp C.P a w (liftK C K) Q := by
  obtain ⟨kt, et, hm, hkt, _⟩ := mapT_spec hT
  have h1 := (hF.ev rfl e1).s
  obtain ⟨ob, l, hs, ⟨es, cl, rfl, rfl, hst, hks⟩, hK⟩ := h
  have hb := hH.seenO hs
  refine wp_allocm (ob := .mapIter (some b) cl #[] cl) (x := .g (.s (.pointer (some ⟨w.heap.size, 0, none⟩)))) (v := .pointer (some ⟨w.heap.size, 0, none⟩)) hd ?_ hH hF ⟨rfl, rfl⟩ fun hdis => hK _ _ ⟨es, cl, [], rfl, rfl, by simp, by simp, rfl⟩ hdis
  simp only [execOp, ho, cOpd_eval hx a, h1]
  refine run_value' ?_
  simp [Instr.range, Sem.run_bind, run_underlying' hm, MapKept.run_getObj_map hb]

theorem iter_all {es : Array MapEntry} {cl : Nat} (hst : MapKept.Stamped es cl) {vs : List MapEntry} (h1 : ∀ e ∈ vs, e ∈ es.toList) (h2 : (vs.map (·.born)).Nodup) (h3 : ∀ e ∈ es.toList, e.born ∈ vs.map (·.born)) : (vs.map kv).Perm (es.toList.map kv) := by
  refine List.Perm.map kv ?_
  have nd1 : vs.Nodup := nodup_of_map _ h2
  have nd2 : es.toList.Nodup := nodup_of_map _ hst.2.1
  rw [List.perm_ext_iff_of_nodup nd1 nd2]
  intro e
  refine ⟨h1 e, fun he => ?_⟩
  obtain ⟨e', he', hb⟩ := List.mem_map.1 (h3 e he)
  have : e' = e := inj_of_nodup hst.2.1 (h1 e' he') he hb
  exact this ▸ he'

theorem wp_nxt {x : Operand} {x' : Opd} (ho : o.op = .next x false) (hx : cOpd x = some x') (hd : ∀ t, o.dst = some t → t < C.N)
    (hF : FR loc C.N σ.fr σ.pv a) (hH : HR C loc σ.pv σ.ph σ.m w) {r : Nat} (e1 : ev σ x' = some (.g (.s (.pointer (some ⟨r, 0, none⟩))))) (h : nxtK C r o.dst K σ) : o.wp C.P a w (liftK C K) Q := by
  have h1 := (hF.ev rfl e1).s
  obtain ⟨it, b, ob, kd, l, s, hr, hs, ⟨es, cl, rfl, rfl, hst, hks⟩, ⟨es', cl', vs, heq, rfl, hv1, hv2, rfl⟩, hover, hnext⟩ := h
  obtain ⟨rfl, rfl⟩ : es = es' ∧ cl = cl' := by simpa using heq
  have hb := hH.seenO hs
  have hrw := hH.mle r _ hr
  have hex : execOp a.eval o = (do pure (.value (← Instr.next (.pointer (some ⟨r, 0, none⟩)) false o.type)) : Sem Next) := by
    simp only [execOp, ho, cOpd_eval hx a, h1]
  rcases run_next_at (P := C.P) w o.type r b cl cl _ es cl hrw hb hst.1 (Nat.le_refl _) with ⟨g1, g2⟩ | ⟨e, g1, w1, g2, g3⟩
  · have hall : ∀ e ∈ es.toList, e.born ∈ vs.map (·.born) := by
      intro e he
      have hnil : leftOf es (vs.map (·.born)).toArray = #[] := Array.eq_empty_of_size_eq_zero g1
      have := Array.filter_eq_empty_iff.1 hnil e (by simpa using he)
      simpa using this
    have hp := hover (iter_all hst hv1 hv2 hall)
    obtain ⟨q1, q2, q3⟩ := σ.put_pv o.dst (.tup [.s (.bool false)])
    unfold Oper.wp
    rw [hex, run_value' g2, Oper.upon_value]
    exact ⟨_, hp, loc, by rw [q1]; exact hF.put hd rfl ⟨by simp [GV.ok, Value.oneCell'], rfl⟩, by rw [q1, q2, q3]; exact hH⟩
  · have hmem : e ∈ es.toList ∧ e.born ∉ vs.map (·.born) := by
      have : e ∈ leftOf es (vs.map (·.born)).toArray := by simpa using g1
      unfold leftOf at this
      simp only [Array.mem_filter] at this
      exact ⟨by simpa using this.1, by simpa using this.2⟩
    obtain ⟨he, hnb⟩ := hmem
    have hw1 : HR C loc σ.pv σ.ph σ.m w1 := by
      rcases g2 with rfl | rfl
      · exact hH
      · exact hH.drew'
    have hke := hks e he
    have hk1 : e.key.oneCell' = true := by
      have := hke.1
      cases kd <;> cases h : e.key <;> simp_all [MapKept.IsKey, mkD, Value.oneCell']
    refine wp_mem (ob' := .mapIter (some b) cl ((vs.map (·.born)).toArray.push e.born) cl) (x := .tup [.s (.bool true), .s e.key, .s e.val]) (v := .tuple #[.bool true, e.key, e.val]) (w1 := w1) hd (.inl ?_) hw1 hF hr ⟨?_, rfl⟩ (hnext (kv e) _ (List.mem_map.2 ⟨e, he, rfl⟩) ?_ ?_)
    · rw [hex]; exact run_value' g3
    · intro y hy
      simp at hy
      rcases hy with rfl | rfl | rfl
      · rfl
      · exact hk1
      · exact hke.2
    · intro hin
      obtain ⟨e', he', hkv⟩ := List.mem_map.1 hin
      have hkk : e'.key = e.key := congrArg Prod.fst hkv
      have : e' = e := inj_of_nodup hst.2.2 (hv1 e' he') he hkk
      subst this
      exact hnb (List.mem_map.2 ⟨e', he', rfl⟩)
    · refine ⟨es, cl, vs ++ [e], rfl, by simp, ?_, ?_, by simp⟩
      · intro x hx
        rcases List.mem_append.1 hx with hx | hx
        · exact hv1 x hx
        · simp at hx; subst hx; exact he
      · rw [List.map_append, List.map_cons, List.map_nil]
        exact List.nodup_append.2 ⟨hv2, by simp, fun x hx y hy => by simp at hy; subst hy; exact fun e0 => hnb (e0 ▸ hx)⟩

/-- Memory at one's disposal is only read from now on. -/
theorem HR.frz {pv : List (Nat × PV)} {ph : List PH} {m : PH} (hH : HR C loc pv ph m w) {u m' : PH} (hm : m = uni u m') (hd : dis u m') : HR C loc pv (u :: ph) m' w := by
  have hmle : ∀ j, m j = none → u j = none ∧ m' j = none := fun j hj => by
    rw [hm] at hj
    cases h1 : u j with
    | some o => simp [uni, h1] at hj
    | none => exact ⟨rfl, by simpa [uni, h1] using hj⟩
  have hule : ∀ j o, u j = some o → m j = some o := fun j o hj => by rw [hm]; exact sub_uni_l _ _ j o hj
  have hm'le : ∀ j o, m' j = some o → m j = some o := fun j o hj => by rw [hm]; exact sub_uni_r hd j o hj
  refine ⟨hH.kept, fun k y hk => ?_, hH.apart, fun k y b o c h1 h2 h3 => ?_, fun j o hj => hH.mle j o (hm'le j o hj), fun j hj => hH.mmine j (fun e => hj (hmle j e).2), fun u' hu => ?_⟩
  · have hp := hH.pvs k y hk
    cases y with
    | box g => exact hp
    | row e z df xs => exact hp
    | ro z df xs =>
      refine ⟨hp.1, ?_⟩
      have hp2 := hp.2
      cases hl : loc k with
      | none => rw [hl] at hp2; exact hp2
      | some l =>
        obtain ⟨b, o, c⟩ := l
        rw [hl] at hp2
        obtain ⟨h1, hp3⟩ := hp2
        refine ⟨h1, fun hc => ?_⟩
        obtain ⟨u', cs, e, fz, hu, h2⟩ := hp3 hc
        exact ⟨u', cs, e, fz, hu.imp id (List.mem_cons_of_mem _), h2⟩
  · obtain ⟨e1, e2, e3⟩ := hH.priv k y b o c h1 h2 h3
    refine ⟨e1, (hmle b e2).2, fun u' hu => ?_⟩
    rcases List.mem_cons.1 hu with rfl | hu
    · exact (hmle b e2).1
    · exact e3 u' hu
  · rcases List.mem_cons.1 hu with rfl | hu
    · refine ⟨fun j o hj => hH.mle j o (hule j o hj), fun j hj => ⟨hH.mmine j (fun e => hj (hmle j e).1), (hd j).resolve_left hj⟩⟩
    · exact ⟨(hH.phs u' hu).1, fun j hj => ⟨((hH.phs u' hu).2 j hj).1, (hmle j ((hH.phs u' hu).2 j hj).2).2⟩⟩

theorem HR.addro {pv : List (Nat × PV)} {ph : List PH} {m : PH} (hH : HR C loc pv ph m w) {k z : Nat} {df : GV} {xs : List GV} {L : Nat × Nat × Nat} (hk : look pv k = none) (hnew : PVr C (fun j => if j = k then some L else loc j) ph w k (.ro z df xs)) :
    HR C (fun j => if j = k then some L else loc j) (updL pv k (.ro z df xs)) ph m w := by
  refine ⟨hH.kept, fun j y hj => ?_, fun j j' y y' b o c o' c' g1 g2 g3 g4 g5 g6 => ?_, fun j y b o c g1 g2 g3 => ?_, hH.mle, hH.mmine, hH.phs⟩
  · rw [look_upd] at hj
    split at hj
    · rename_i e; subst e
      simp at hj; subst hj
      exact hnew
    · rename_i hjk
      have hp := hH.pvs j y hj
      cases y with
      | box g => simpa [PVr, hjk] using hp
      | row e' z' df' xs' => simpa [PVr, hjk] using hp
      | ro z' df' xs' => simpa [PVr, hjk] using hp
  · rw [look_upd] at g1 g4
    by_cases hj : j = k
    · simp only [hj, if_true, Option.some.injEq] at g1; subst g1; cases g2
    · by_cases hj' : j' = k
      · simp only [hj', if_true, Option.some.injEq] at g4; subst g4; cases g5
      · simp only [hj, if_false] at g1 g3
        simp only [hj', if_false] at g4 g6
        exact hH.apart j j' y y' b o c o' c' g1 g2 g3 g4 g5 g6
  · rw [look_upd] at g1
    by_cases hj : j = k
    · simp only [hj, if_true, Option.some.injEq] at g1; subst g1; cases g2
    · simp only [hj, if_false] at g1 g3
      exact hH.priv j y b o c g1 g2 g3

theorem freeze_new {w : World} {cs : Array Value} {e : TypeId} {n : Nat} : (w.alloc (.cells cs e)).freeze ⟨w.heap.size, n, none⟩ 1 = w.alloc (.cells cs e (n, n + 1)) := by
  simp only [World.freeze, World.alloc]
  simp only [Nat.one_ne_zero, if_false]
  congr 1
  apply Array.ext_getElem?
  intro j
  simp only [Array.getElem?_modify, Array.getElem?_push]
  by_cases hj : j = w.heap.size
  · subst hj; simp
  · simp [hj, Ne.symm hj]

def s2bCs (b : ByteArray) (c : Nat) : Array Value := (b.data.map fun x => Value.int .u8 x.toNat) ++ Array.replicate (c - b.size) (Value.int .u8 0)
theorem run_s2b {P : Program} {s t e : TypeId} {b : ByteArray} (hs : P.underlying s = some .string) (ht : P.underlying t = some (.slice e)) (he : P.underlying e = some (.int .u8)) (w : World) :
    ∃ c cs, b.size ≤ c ∧ RowAt cs 0 (b.data.toList.map fun x => .int .u8 x.toNat) ∧ (convert s t (.string b)).run P w = .ok (.slice (some ⟨w.heap.size, 0, none⟩) b.size c) (w.drew.alloc (.cells cs e (cs.size, cs.size + 1))) := by
  have hq : (Question.appendCap b.size 0 e).forced = false := rfl
  refine ⟨(Question.appendCap b.size 0 e).cut (w.tape w.drawn (.appendCap b.size 0 e)), s2bCs b ((Question.appendCap b.size 0 e).cut (w.tape w.drawn (.appendCap b.size 0 e))), by simp [Question.cut], ?_, ?_⟩
  · intro j v hj
    have hlt : j < b.data.size := by
      rcases Nat.lt_or_ge j b.data.size with h | h
      · exact h
      · rw [List.getElem?_eq_none (by simpa using h)] at hj; cases hj
    unfold s2bCs
    rw [Nat.zero_add, Array.getElem?_append_left (by simpa using hlt)]
    simpa using hj
  · have hshape : ∀ (w : World) cs, (w.alloc (.cells cs e)).shape? w.heap.size = some (e, cs.size) := fun w cs => by
      unfold World.shape?
      rw [alloc_new]
    have hmark : ∀ (w : World) cs, (markStringish ⟨w.heap.size, 0, none⟩).run P (w.alloc (.cells cs e)) = .ok () (w.alloc (.cells cs e (cs.size, cs.size + 1))) := fun w cs => by
      unfold markStringish
      rw [Sem.run_bind, run_shape, hshape]
      simp only [Result.andThen_ok, run_freeze, freeze_new]
    have hnew : ∀ (w : World) cs, (newRow e cs).run P w = .ok ⟨w.heap.size, 0, none⟩ (w.alloc (.cells cs e)) := fun w cs => by
      simp [newRow, Sem.run_bind, run_newObj]
    have hch : (choose (Question.appendCap b.size 0 e)).run P w = .ok ((Question.appendCap b.size 0 e).cut (w.tape w.drawn (.appendCap b.size 0 e))) w.drew := by
      simp only [run_choose, hq, Bool.false_eq_true, if_false]
      rfl
    have hb : (Conv.stringToBytes e b).run P w = .ok (.slice (some ⟨w.heap.size, 0, none⟩) b.size ((Question.appendCap b.size 0 e).cut (w.tape w.drawn (.appendCap b.size 0 e)))) (w.drew.alloc (.cells (s2bCs b ((Question.appendCap b.size 0 e).cut (w.tape w.drawn (.appendCap b.size 0 e)))) e
        ((s2bCs b ((Question.appendCap b.size 0 e).cut (w.tape w.drawn (.appendCap b.size 0 e)))).size, (s2bCs b ((Question.appendCap b.size 0 e).cut (w.tape w.drawn (.appendCap b.size 0 e)))).size + 1))) := by
      unfold Conv.stringToBytes
      rw [Sem.run_bind, hch]
      simp only [Result.andThen_ok]
      rw [Sem.run_bind, hnew]
      simp only [Result.andThen_ok]
      rw [Sem.run_bind, hmark]
      rfl
    rw [← hb]
    simp only [convert, Sem.run_bind, run_underlying' hs, run_underlying' ht, run_underlying' he, Result.andThen_ok]

theorem wp_s2b {k : Nat} {s t e : TypeId} {x : Operand} {x' : Opd} {b : ByteArray} (ho : o.op = .convert s t x) (hs : C.P.underlying s = some .string) (ht : C.P.underlying t = some (.slice e)) (he : C.P.underlying e = some (.int .u8)) (hx : cOpd x = some x') (hd : ∀ t, o.dst = some t → t < C.N)
    (hF : FR loc C.N σ.fr σ.pv a) (hH : HR C loc σ.pv σ.ph σ.m w) (hdst : o.dst = some k) (e1 : ev σ x' = some (.g (.s (.string b)))) (hk : look σ.pv k = none)
    (hK : ∀ u, K { σ with fr := (k, .row k 0 b.size) :: σ.fr, pv := updL σ.pv k (.ro 1 (gb 0) (b.data.toList.map gb)), ph := u :: σ.ph }) : o.wp C.P a w (liftK C K) Q := by
  have h1 := (hF.ev rfl e1).s
  obtain ⟨c, cs, hc, hat, hrun⟩ := run_s2b (b := b) hs ht he w
  have hH1 := hH.drew'
  obtain ⟨hH2, hdis⟩ := hH1.allocm (.cells cs e (cs.size, cs.size + 1))
  have hH3 := hH2.frz rfl hdis
  have hfl : flats (b.data.toList.map gb) = b.data.toList.map fun x => .int .u8 x.toNat := flats_gb _
  have hels : Els 1 (b.data.toList.map gb) := fun x hx => by
    simp only [List.mem_map] at hx
    obtain ⟨y, _, rfl⟩ := hx
    exact ⟨rfl, rfl⟩
  have hlen : (b.data.toList.map gb).length = b.size := by simp
  have hH4 := hH3.addro (k := k) (z := 1) (df := gb 0) (xs := b.data.toList.map gb) (L := (w.heap.size, 0, c)) hk ⟨hels, by
    simp only [if_true]
    refine ⟨by rw [hlen]; exact hc, fun _ => ⟨_, cs, e, (cs.size, cs.size + 1), .inr (List.mem_cons_self ..), by simp only [one]; exact if_pos rfl, ?_⟩⟩
    rw [hfl]; exact hat⟩
  unfold Oper.wp
  have hex : (execOp a.eval o).run C.P w = .ok (.value (.slice (some ⟨w.heap.size, 0, none⟩) b.size c)) (w.drew.alloc (.cells cs e (cs.size, cs.size + 1))) := by
    simp only [execOp, ho, cOpd_eval hx a, h1]
    exact run_value' hrun
  rw [hex, Oper.upon_value]
  refine ⟨_, hK _, _, ?_, hH4⟩
  have hkN := hd k hdst
  rw [hdst]
  refine ⟨hF.defers, by simp [Act.put, hF.size], fun t' x hx => ?_⟩
  simp only [look] at hx
  by_cases ht' : t' = k
  · simp only [ht', if_true, Option.some.injEq] at hx
    subst hx; subst ht'
    refine ⟨_, by simp [Act.put, hF.size, hkN]; rfl, 1, b.data.toList.map gb, by simp [rowE, look_upd], by rw [hlen]; omega, ?_⟩
    simp [SlcV]
  · simp only [ht', if_false] at hx
    obtain ⟨v, hv, hr⟩ := hF.slots t' x hx
    refine ⟨v, by simp only [Act.put]; rw [Array.getElem?_setIfInBounds_ne (fun e => ht' e.symm)]; exact hv, hr.weaken fun j hj => ?_⟩
    have hjk : j ≠ k := fun e => hr.there j hj (e ▸ hk)
    exact ⟨by simp [hjk], by simp [look_upd, hjk]⟩
end
end Go.Proofs.Ytdpknchgoeboaaa.Vc
