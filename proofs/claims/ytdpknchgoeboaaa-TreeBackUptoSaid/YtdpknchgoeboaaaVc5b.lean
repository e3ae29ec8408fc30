/- Soundness: rows of the call's own come to be, and grow. -/
import Derived.Test.YtdpknchgoeboaaaVc5
set_option linter.unusedVariables false
set_option linter.unusedSimpArgs false
namespace Go.Proofs.Ytdpknchgoeboaaa.Vc
open Go

theorem szAll_els {z : Nat} : ∀ {xs : List GV}, szAll z xs → (∀ x ∈ xs, x.ok) → Els z xs
  | [], _, _ => fun x hx => by cases hx
  | y :: xs, h, hok => fun x hx => by
    rcases List.mem_cons.1 hx with rfl | hx
    · exact ⟨hok _ (by simp), h.1⟩
    · exact szAll_els h.2 (fun q hq => hok q (by simp [hq])) x hx

theorem flats_append (xs ys : List GV) : flats (xs ++ ys) = flats xs ++ flats ys := by simp [flats]

theorem Els.append {z : Nat} {xs ys : List GV} (h : Els z xs) (k : Els z ys) : Els z (xs ++ ys) := fun x hx => by
  rcases List.mem_append.1 hx with h1 | h1
  · exact h x h1
  · exact k x h1
theorem Els.part {z : Nat} {xs : List GV} (h : Els z xs) (a n : Nat) : Els z ((xs.drop a).take n) := fun x hx => h x (List.mem_of_mem_drop (List.mem_of_mem_take hx))

/-- Elements a to a + n of a row, as cells. -/
theorem flats_part {z : Nat} {xs : List GV} (h : Els z xs) {a n : Nat} (hn : a + n ≤ xs.length) : ∀ j v, (flats ((xs.drop a).take n))[j]? = some v → (flats xs)[a * z + j]? = some v := by
  intro j v hj
  have e : xs = xs.take a ++ ((xs.drop a).take n ++ (xs.drop a).drop n) := by rw [List.take_append_drop, List.take_append_drop]
  have hl : (flats (xs.take a)).length = a * z := by
    rw [flats_len (fun x hx => h x (List.mem_of_mem_take hx))]
    simp [show min a xs.length = a by omega]
  have hlt : j < (flats ((xs.drop a).take n)).length := by
    rcases Nat.lt_or_ge j (flats ((xs.drop a).take n)).length with h' | h'
    · exact h'
    · simp [List.getElem?_eq_none h'] at hj
  rw [e, flats_append, flats_append, List.getElem?_append_right (by omega), hl, Nat.add_sub_cancel_left, List.getElem?_append_left hlt]
  exact hj

theorem run_typeInfo {P : Program} {t : TypeId} {i : TypeInfo} (h : P.info? t = some i) (w : World) : (typeInfo t).run P w = .ok i w := by
  simp [typeInfo, Sem.run_bind, h]

section
variable {C : Ctx} {loc : Loc} {σ : SS} {a : Act} {o : Oper} {w : World} {K : KT} {Q : Exit → Act → World → Prop}

/-- What is appended, read. -/
theorem HR.cells (hH : HR C loc σ.pv σ.ph σ.m w) {k z s n : Nat} {xs : List GV} {v : Value} (hr : rowE σ.pv k = some (z, xs)) (hn : s + n ≤ xs.length) (hv : SlcV (loc k) z s n v) :
    (Builtin.lenOf v).run C.P w = .ok n w ∧ (Builtin.firstCells z n v).run C.P w = .ok (flats ((xs.drop s).take n)).toArray w := by
  obtain ⟨hels, hrow⟩ := hH.row hr
  cases hl : loc k with
  | none =>
    rw [hl] at hrow hv
    simp only at hrow
    subst hrow
    simp at hn
    obtain ⟨rfl, rfl⟩ := hn
    obtain ⟨base, hv⟩ : ∃ base, v = .slice base 0 0 := hv
    subst hv
    exact ⟨by simp [Builtin.lenOf], by cases base <;> simp [Builtin.firstCells, flats, loadCells, loadCellsFrom]⟩
  | some L =>
    obtain ⟨b, f, c⟩ := L
    rw [hl] at hrow hv
    simp only [SlcV] at hv
    obtain ⟨ad, rfl, had⟩ := hv
    refine ⟨by simp [Builtin.lenOf], ?_⟩
    have hlen : (flats ((xs.drop s).take n)).length = n * z := by
      rw [flats_len (hels.part s n)]
      simp [show min n (xs.length - s) = n by omega]
    have := run_loadCells_list (P := C.P) w ad (flats ((xs.drop s).take n)) (fun j v hj => by
      have hjl : j < n * z := by
        rcases Nat.lt_or_ge j (n * z) with h' | h'
        · exact h'
        · rw [← hlen] at h'; simp [List.getElem?_eq_none h'] at hj
      have hn0 : 0 < n := by
        rcases Nat.eq_zero_or_pos n with h0 | h0
        · subst h0; simp at hjl
        · exact h0
      rw [had (by omega), addr_add, Nat.add_assoc]
      exact hrow.2 _ _ (flats_part hels hn j v hj))
    rw [hlen] at this
    simp only [Builtin.firstCells]
    exact this

/-- A row of the call's own comes to be, in slot k. -/
theorem wp_newrow {k c : Nat} {e : TypeId} {z : Nat} {df : GV} {xs : List GV} {cs : Array Value} {w' : World} (hdst : o.dst = some k) (hd : ∀ t, o.dst = some t → t < C.N)
    (hrun : (execOp a.eval o).run C.P w = .ok (.value (.slice (some ⟨w'.heap.size, 0, none⟩) xs.length c)) (w'.alloc (.cells cs e)))
    (hw' : HR C loc σ.pv σ.ph σ.m w') (hels : Els z xs) (hlen : xs.length ≤ c) (hcs : c * z ≤ cs.size) (hat : RowAt cs 0 (flats xs))
    (hF : FR loc C.N σ.fr σ.pv a) (hk : look σ.pv k = none) (hK : K { σ with fr := (k, .row k 0 xs.length) :: σ.fr, pv := updL σ.pv k (.row e z df xs) }) : o.wp C.P a w (liftK C K) Q := by
  unfold Oper.wp
  rw [hrun, Oper.upon_value]
  refine ⟨_, hK, fun j => if j = k then some (w'.heap.size, 0, c) else loc j, ?_, hw'.alloc (c := c) (y := .row e z df xs) rfl ⟨hels, by simp only [if_true]; exact ⟨cs, alloc_new, hlen, by omega, hat⟩⟩⟩
  have hkN := hd k hdst
  rw [hdst]
  refine ⟨hF.defers, by simp [Act.put, hF.size], fun t x hx => ?_⟩
  simp only [look] at hx
  by_cases ht : t = k
  · simp only [ht, if_true, Option.some.injEq] at hx
    subst hx; subst ht
    refine ⟨_, by simp [Act.put, hF.size, hkN]; rfl, z, xs, by rw [rowE_upd, if_pos rfl], by simp, ?_⟩
    simp [SlcV]
  · simp only [ht, if_false] at hx
    obtain ⟨v, hv, hr⟩ := hF.slots t x hx
    refine ⟨v, by simp only [Act.put]; rw [Array.getElem?_setIfInBounds_ne (fun e => ht e.symm)]; exact hv, hr.weaken fun j hj => ?_⟩
    have hjk : j ≠ k := fun e => hr.there j hj (e ▸ hk)
    exact ⟨by simp [hjk], by simp [look_upd, hjk]⟩

theorem range_mod {zero : Array Value} {n : Nat} : ((Array.range n).map (zero[· % zero.size]!)).size = n := by simp

theorem fill_slice (z : Nat) : ∀ (gs : List GV) (k : Nat) (cs : Array Value), szAll z gs → (∀ g ∈ gs, g.ok) → (k + gs.length) * z ≤ cs.size →
    Instr.fill (fun i => some (i * z, z)) cs ((List.range' k gs.length).zip (gs.map GV.val)) = some (writeAt cs (k * z) (flats gs))
  | [], k, cs, _, _, _ => by simp [Instr.fill, flats, writeAt]
  | g :: gs, k, cs, hz, hok, hsz => by
    have hgok := hok g (by simp)
    have hcells : g.val.cells = (GV.flat g).toArray := GV.cells_val g hgok
    have hlen : (GV.flat g).length = z := by rw [GV.flat_len g hgok]; exact hz.1
    have hmul : k * z + z ≤ cs.size := by
      rw [← Nat.succ_mul]
      exact Nat.le_trans (Nat.mul_le_mul_right z (by simp)) hsz
    simp only [List.length_cons, List.range'_succ, List.map_cons, List.zip_cons_cons, Instr.fill]
    rw [if_neg (by simp [hcells, hlen]; omega), zipIdx_writeAt, hcells]
    simp only
    rw [fill_slice z gs (k + 1) _ hz.2 (fun x hx => hok x (by simp [hx])) (by rw [writeAt_size]; simpa [Nat.add_assoc, Nat.add_comm 1] using hsz)]
    congr 1
    have app : ∀ (l1 l2 : List Value) (cs : Array Value) (j : Nat), writeAt cs j (l1 ++ l2) = writeAt (writeAt cs j l1) (j + l1.length) l2 := by
      intro l1
      induction l1 with
      | nil => intro l2 cs j; simp [writeAt]
      | cons v l1 ih => intro l2 cs j; simp only [List.cons_append, writeAt, ih, List.length_cons]; rw [show j + 1 + l1.length = j + (l1.length + 1) by omega]
    show writeAt (writeAt cs (k * z) (GV.flat g)) ((k + 1) * z) (flats gs) = writeAt cs (k * z) (flats (g :: gs))
    rw [show flats (g :: gs) = GV.flat g ++ flats gs from rfl, app, hlen, Nat.succ_mul]

theorem writeAt_all {cs : Array Value} {l : List Value} (h : cs.size = l.length) : RowAt (writeAt cs 0 l) 0 l := by
  intro j v hj
  have hlt : j < l.length := by
    rcases Nat.lt_or_ge j l.length with h' | h'
    · exact h'
    · simp [List.getElem?_eq_none h'] at hj
  rw [Nat.zero_add, writeAt_get _ _ _ _ (by omega), if_pos (by omega)]
  simpa using hj

theorem wp_bldS {t e : TypeId} {parts : Array (Nat × Operand)} {l : List Opd} {i : TypeInfo} {zv : Value} {df : GV} (ho : o.op = .buildSlice t parts.size parts) (ht : C.P.underlying t = some (.slice e)) (hi : C.P.info? e = some i) (hzv : i.zero = some zv)
    (hsmall : parts.size * i.size ≤ 2 ^ 24) (hpl : parts.toList.mapM (fun x => (cOpd x.2).map fun y => (x.1, y)) = some ((List.range l.length).zip l))
    {k : Nat} (hdst : o.dst = some k) (hd : ∀ t, o.dst = some t → t < C.N) (hF : FR loc C.N σ.fr σ.pv a) (hH : HR C loc σ.pv σ.ph σ.m w) {xs : List SV} {gs : List GV} (h1 : evL σ l = some xs) (h2 : gvL xs = some gs)
    (hz : szAll i.size gs) (hk : look σ.pv k = none) (hK : K { σ with fr := (k, .row k 0 gs.length) :: σ.fr, pv := updL σ.pv k (.row e i.size df gs) }) : o.wp C.P a w (liftK C K) Q := by
  obtain ⟨e1, e2⟩ := evL_gvs hF h1 h2
  have hlen : l.length = gs.length := by have := congrArg List.length e1; simpa using this
  have hsize : parts.size = gs.length := by
    have := congrArg List.length (parts_map hpl a)
    simp at this
    omega
  have hparts : (parts.map fun (i, x) => (i, a.eval x)).toList = (List.range' 0 gs.length).zip (gs.map GV.val) := by
    have := parts_map hpl a
    rw [Array.toList_map, this, ← List.range_eq_range']
    have q1 : ((List.range l.length).zip l).map (·.1) = List.range l.length := List.map_fst_zip (by simp)
    have q2 : ((List.range l.length).zip l).map (·.2) = l := List.map_snd_zip (by simp)
    rw [q1, q2, e1, hlen]
  have hels := szAll_els hz e2
  refine wp_newrow (w' := w) (cs := writeAt ((Array.range (gs.length * i.size)).map ((if gs.length * i.size = 0 then (#[] : Array Value) else zv.cells)[· % (if gs.length * i.size = 0 then (#[] : Array Value) else zv.cells).size]!)) 0 (flats gs)) (c := gs.length) hdst hd ?_ hH hels (Nat.le_refl _) (by rw [writeAt_size]; simp) (writeAt_all (by simp [flats_len hels])) hF hk hK
  have hfill := fill_slice i.size gs 0 ((Array.range (gs.length * i.size)).map ((if gs.length * i.size = 0 then (#[] : Array Value) else zv.cells)[· % (if gs.length * i.size = 0 then (#[] : Array Value) else zv.cells).size]!)) hz e2 (by simp)
  rw [Nat.zero_mul] at hfill
  have hex : execOp a.eval o = (do pure (.value (← Instr.buildSlice t parts.size (parts.map fun (i, x) => (i, a.eval x))))) := by simp only [execOp, ho]
  rw [hex]
  suffices hb : (Instr.buildSlice t parts.size (parts.map fun (i, x) => (i, a.eval x))).run C.P w = .ok (.slice (some ⟨w.heap.size, 0, none⟩) gs.length gs.length) (w.alloc (.cells (writeAt ((Array.range (gs.length * i.size)).map ((if gs.length * i.size = 0 then (#[] : Array Value) else zv.cells)[· % (if gs.length * i.size = 0 then (#[] : Array Value) else zv.cells).size]!)) 0 (flats gs)) e)) by
    rw [Sem.run_bind, hb]; rfl
  simp only [Instr.buildSlice, Sem.run_bind, run_underlying' ht, Result.andThen_ok, run_sizeOf' hi]
  rw [hsize] at hsmall ⊢
  rw [if_neg (by omega)]
  by_cases h0 : gs.length * i.size = 0
  · simp only [h0, if_true] at hfill ⊢
    simp only [Sem.run_pure, Result.andThen_ok, hparts, hfill, newRow, Sem.run_bind, run_newObj]
    rfl
  · simp only [h0, if_false] at hfill ⊢
    have hzr : (zeroValue e).run C.P w = .ok zv w := by simp [zeroValue, Sem.run_bind, run_typeInfo hi, hzv]
    simp only [Sem.run_bind, hzr, Sem.run_pure, Result.andThen_ok, hparts, hfill, newRow, run_newObj]
    rfl

/-! ### append -/
theorem zeroCells_size (zero : Array Value) (n : Nat) : (Builtin.zeroCells zero n).size = n * zero.size := by simp [Builtin.zeroCells]

theorem append_exec {t t2 e : TypeId} {d2 : TypeDesc} {i : TypeInfo} {c : Call} {x y : Operand} {x' y' : Opd} (ho : o.op = .call c) (hc : c.callee = .builtin .append) (ha : c.args.toList = [x, y]) (hx : cOpd x = some x') (hy : cOpd y = some y') :
    execOp a.eval o = (do pure (.value (← Builtin.append_ c.argTypes o.type #[evO a x', evO a y']))) := by
  rw [exec_builtin ho hc, args_two ha]
  simp only [List.map_toArray, List.map_cons, List.map_nil, cOpd_eval hx a, cOpd_eval hy a]
  rfl

/-- There is room: what is appended is written behind. -/
theorem run_append_in {P : Program} {ats : Array TypeId} {ty t t2 e : TypeId} {d2 : TypeDesc} {i : TypeInfo} (h0 : ats[0]? = some t) (h1 : ats[1]? = some t2) (ht : P.underlying t = some (.slice e)) (ht2 : P.underlying t2 = some d2) (hd2 : ∀ k, d2 ≠ .int k) (hi : P.info? e = some i)
    {b f n cp n' : Nat} {yv : Value} {new : List Value} {cs : Array Value} {e' : TypeId} {w : World} (hlen : (Builtin.lenOf yv).run P w = .ok n' w) (hnew : (Builtin.firstCells i.size n' yv).run P w = .ok new.toArray w) (hroom : n + n' ≤ cp)
    (hb : w.heap[b]? = some (.cells cs e' (0, 0))) (hsz : f + n * i.size + new.length ≤ cs.size) (h1c : ∀ v ∈ new, v.oneCell' = true) :
    (Builtin.append_ ats ty #[.slice (some ⟨b, f, none⟩) n cp, yv]).run P w = .ok (.slice (some ⟨b, f, none⟩) (n + n') cp) (w.setBlk b (.cells (writeAt cs (f + n * i.size) new) e' (0, 0))) := by
  have hz : (underlying t2).run P w = .ok d2 w := run_underlying' ht2 w
  have hne : (d2 matches .int _) = false := by cases d2 <;> first | rfl | exact absurd rfl (hd2 _)
  have hst := run_storeCells' (P := P) (b := b) (o := f + n * i.size) (e := e') new 0 cs w hb (by omega) h1c
  simp only [Nat.add_zero] at hst
  unfold Builtin.append_
  simp only [List.getElem?_toArray, List.getElem?_cons_zero, List.getElem?_cons_succ, h0, h1, Sem.run_bind, run_underlying' ht, Result.andThen_ok, run_sizeOf' hi, hz]
  simp only [Sem.run_pure, Result.andThen_ok]
  cases d2 <;> first
    | exact absurd rfl (hd2 _)
    | (simp only [Bool.false_eq_true, if_false, hlen, Result.andThen_ok, hroom, if_true, Bool.not_false, hnew, addr_add, Sem.run_bind, hst, Sem.run_pure])

theorem run_append_nil0 {P : Program} {ats : Array TypeId} {ty t t2 e : TypeId} {d2 : TypeDesc} {i : TypeInfo} (h0 : ats[0]? = some t) (h1 : ats[1]? = some t2) (ht : P.underlying t = some (.slice e)) (ht2 : P.underlying t2 = some d2) (hd2 : ∀ k, d2 ≠ .int k) (hi : P.info? e = some i)
    {yv : Value} {w : World} {base : Option Addr} (hlen : (Builtin.lenOf yv).run P w = .ok 0 w) (hnew : (Builtin.firstCells i.size 0 yv).run P w = .ok #[] w) :
    (Builtin.append_ ats ty #[.slice base 0 0, yv]).run P w = .ok (.slice base 0 0) w := by
  have hz : (underlying t2).run P w = .ok d2 w := run_underlying' ht2 w
  unfold Builtin.append_
  simp only [List.getElem?_toArray, List.getElem?_cons_zero, List.getElem?_cons_succ, h0, h1, Sem.run_bind, run_underlying' ht, Result.andThen_ok, run_sizeOf' hi, hz]
  simp only [Sem.run_pure, Result.andThen_ok]
  cases d2 <;> first
    | exact absurd rfl (hd2 _)
    | (simp only [Bool.false_eq_true, if_false, hlen, Result.andThen_ok, Nat.le_refl, Nat.add_zero, if_true, Bool.not_false, hnew, Sem.run_bind, Sem.run_pure]
       cases base <;> simp [storeCells, Sem.run_bind])

/-- No room: a new array. -/
theorem run_append_out {P : Program} {ats : Array TypeId} {ty t t2 e : TypeId} {d2 : TypeDesc} {i : TypeInfo} {zv : Value} (h0 : ats[0]? = some t) (h1 : ats[1]? = some t2) (ht : P.underlying t = some (.slice e)) (ht2 : P.underlying t2 = some d2) (hd2 : ∀ k, d2 ≠ .int k) (hi : P.info? e = some i)
    (hzv : i.zero = some zv) (hzs : zv.cells.size = i.size) (hby : i.bytes ≠ 0) {sv yv : Value} {base : Option Addr} {n cp n' : Nat} {old new : List Value} {w : World} (hsv : sv = .slice base n cp) (hlen : (Builtin.lenOf yv).run P w = .ok n' w)
    (hold : (Builtin.firstCells i.size n sv).run P w.drew = .ok old.toArray w.drew) (hnew : (Builtin.firstCells i.size n' yv).run P w.drew = .ok new.toArray w.drew)
    (hroom : ¬ n + n' ≤ cp) (hsize : (n + n') * i.bytes ≤ 140737488355328) :
    ∃ c' rest, n + n' ≤ c' ∧ rest.size = (c' - (n + n')) * i.size ∧ (Builtin.append_ ats ty #[sv, yv]).run P w = .ok (.slice (some ⟨w.heap.size, 0, none⟩) (n + n') c') (w.drew.alloc (.cells (old.toArray ++ new.toArray ++ rest) e)) := by
  subst hsv
  have hz : (underlying t2).run P w = .ok d2 w := run_underlying' ht2 w
  have hfit : ¬ (Builtin.nextslicecap (n + n') cp * i.bytes > 2 ^ 48) := by
    have h := Nat.mul_le_mul_right i.bytes (nextslicecap_le (need := n + n') (old := cp) (by omega))
    rw [Nat.mul_assoc] at h
    omega
  have hq : (Question.appendCap (n + n') cp e).forced = false := rfl
  refine ⟨(Question.appendCap (n + n') cp e).cut (w.tape w.drawn (.appendCap (n + n') cp e)), Builtin.zeroCells zv.cells ((Question.appendCap (n + n') cp e).cut (w.tape w.drawn (.appendCap (n + n') cp e)) - (n + n')), by simp [Question.cut], by rw [zeroCells_size, hzs], ?_⟩
  have hzr : (zeroValue e).run P w.drew = .ok zv w.drew := by simp [zeroValue, Sem.run_bind, run_typeInfo hi, hzv]
  unfold Builtin.append_
  simp only [List.getElem?_toArray, List.getElem?_cons_zero, List.getElem?_cons_succ, h0, h1, Sem.run_bind, run_underlying' ht, Result.andThen_ok, run_sizeOf' hi, hz]
  simp only [Sem.run_pure, Result.andThen_ok]
  cases d2 <;> first
    | exact absurd rfl (hd2 _)
    | (simp only [Bool.false_eq_true, if_false, hlen, Result.andThen_ok, hroom, Sem.run_bind, run_typeInfo hi, hby, false_or, and_false, hfit, run_choose, hq, World.drew_eq, run_askRoom, hold, hnew, Bool.not_false, if_true, hzr, newRow, run_newObj, Sem.run_pure]
       rfl)

theorem kill_look {k : Nat} : ∀ {fr : List (Nat × SV)} {t : Nat} {x : SV}, look (kill k fr) t = some x → x = .any ∨ (look fr t = some x ∧ x.mentions k = false)
  | [], t, x, h => by simp [kill, look] at h
  | (u, y) :: fr, t, x, h => by
    simp only [kill] at h
    cases hm : y.mentions k with
    | true =>
      simp only [hm, cond_true, look] at h
      by_cases ht : t = u
      · simp [ht] at h; exact .inl h.symm
      · simp only [ht, if_false] at h
        rcases kill_look h with h1 | h1
        · exact .inl h1
        · exact .inr (by simpa [look, ht] using h1)
    | false =>
      simp only [hm, cond_false, look] at h
      by_cases ht : t = u
      · simp [ht] at h; subst h; exact .inr ⟨by simp [look, ht], hm⟩
      · simp only [ht, if_false] at h
        rcases kill_look h with h1 | h1
        · exact .inl h1
        · exact .inr (by simpa [look, ht] using h1)

theorem kill_dom {k : Nat} : ∀ {fr : List (Nat × SV)} {t : Nat} {x : SV}, look (kill k fr) t = some x → ∃ y, look fr t = some y
  | [], t, x, h => by simp [kill, look] at h
  | (u, y) :: fr, t, x, h => by
    by_cases ht : t = u
    · exact ⟨y, by simp [look, ht]⟩
    · have : look (kill k fr) t = some x := by
        simp only [kill] at h
        cases hm : y.mentions k <;> simpa [hm, look, ht] using h
      obtain ⟨q, hq⟩ := kill_dom this
      exact ⟨q, by simpa [look, ht] using hq⟩

/-- Row k has turned, and stands in o's slot: what spoke of it elsewhere is let go. -/
theorem FR.regrow {N : Nat} {fr : List (Nat × SV)} {pv : List (Nat × PV)} (hF : FR loc N fr pv a) {d : Option Nat} (hd : ∀ t, d = some t → t < N) {k : Nat} {y : PV} {loc' : Loc} (hl : ∀ j, j ≠ k → loc' j = loc j) {n : Nat} {v : Value}
    (hv : SVr loc' (updL pv k y) (.row k 0 n) v) {σ : SS} (hs : σ.fr = kill k fr) : FR loc' N (σ.put d (.row k 0 n)).fr (updL pv k y) (a.put d v) := by
  have h1 : FR loc' N (kill k fr) (updL pv k y) a := ⟨hF.defers, hF.size, fun t x hx => by
    rcases kill_look hx with rfl | ⟨h1, h2⟩
    · have : ∃ x, look fr t = some x := kill_dom hx
      obtain ⟨x, hx⟩ := this
      obtain ⟨u, hu, _⟩ := hF.slots t x hx
      exact ⟨u, hu, trivial⟩
    · obtain ⟨u, hu, hr⟩ := hF.slots t x h1
      refine ⟨u, hu, hr.weaken fun j hj => ?_⟩
      have hjk : j ≠ k := fun e => by subst e; rw [h2] at hj; cases hj
      exact ⟨hl j hjk, by simp [look_upd, hjk]⟩⟩
  exact h1.put hd hs hv

theorem HR.drew' {pv : List (Nat × PV)} {ph : List PH} {m : PH} (h : HR C loc pv ph m w) : HR C loc pv ph m w.drew :=
  ⟨h.kept, h.pvs, h.apart, h.priv, h.mle, h.mmine, h.phs⟩

theorem HR.samerow {pv : List (Nat × PV)} {ph : List PH} {m : PH} (hH : HR C loc pv ph m w) {k : Nat} {y y' : PV} (hk : look pv k = some y) (h : y' = y) : HR C loc (updL pv k y') ph m w := by
  subst h
  have hl : ∀ q, look (updL pv k y') q = look pv q := fun q => by
    rw [look_upd]
    by_cases e : q = k
    · rw [if_pos e, e, hk]
    · rw [if_neg e]
  exact ⟨hH.kept, fun q y1 hq => hH.pvs q y1 (by rw [← hl]; exact hq), fun q q' y1 y2 b o1 c1 o2 c2 r1 r2 r3 r4 r5 r6 => hH.apart q q' y1 y2 b o1 c1 o2 c2 (by rw [← hl]; exact r1) r2 r3 (by rw [← hl]; exact r4) r5 r6,
    fun q y1 b o1 c1 r1 r2 r3 => hH.priv q y1 b o1 c1 (by rw [← hl]; exact r1) r2 r3, hH.mle, hH.mmine, hH.phs⟩

structure AppOk (P : Program) (ats : Array TypeId) (e : TypeId) (i : TypeInfo) (zv : Value) : Prop where
  ex : ∃ t t2 d2, ats[0]? = some t ∧ ats[1]? = some t2 ∧ P.underlying t = some (.slice e) ∧ P.underlying t2 = some d2 ∧ ∀ k, d2 ≠ .int k
  hi : P.info? e = some i
  hzv : i.zero = some zv
  hzs : zv.cells.size = i.size
  hby : i.bytes ≠ 0

theorem RowAt.app {cs : Array Value} {f : Nat} {l new : List Value} (h : RowAt cs f l) (hsz : f + l.length + new.length ≤ cs.size) : RowAt (writeAt cs (f + l.length) new) f (l ++ new) := by
  intro j v hj
  rw [writeAt_get _ _ _ _ (by omega)]
  by_cases hlt : j < l.length
  · rw [List.getElem?_append_left hlt] at hj
    rw [if_neg (by omega)]
    exact h j v hj
  · rw [List.getElem?_append_right (by omega)] at hj
    have : j - l.length < new.length := by
      rcases Nat.lt_or_ge (j - l.length) new.length with h' | h'
      · exact h'
      · simp [List.getElem?_eq_none h'] at hj
    rw [if_pos (by omega), show f + j - (f + l.length) = j - l.length by omega]
    exact hj

theorem wp_app_row {c : Call} {x y : Operand} {x' y' : Opd} {e : TypeId} {i : TypeInfo} {zv : Value} (ho : o.op = .call c) (hc : c.callee = .builtin .append) (ha : c.args.toList = [x, y]) (hx : cOpd x = some x') (hy : cOpd y = some y') (hok : AppOk C.P c.argTypes e i zv)
    (hd : ∀ t, o.dst = some t → t < C.N) (hF : FR loc C.N σ.fr σ.pv a) (hH : HR C loc σ.pv σ.ph σ.m w) {k j s n' : Nat} {df : GV} {xs ys : List GV} (e1 : ev σ x' = some (.row k 0 xs.length)) (e2 : ev σ y' = some (.row j s n')) (hkj : k ≠ j)
    (hk : look σ.pv k = some (.row e i.size df xs)) (hj : rowE σ.pv j = some (i.size, ys)) (hsz : (xs.length + n') * i.bytes ≤ 140737488355328)
    (hK : K ({ σ with fr := kill k σ.fr, pv := updL σ.pv k (.row e i.size df (xs ++ (ys.drop s).take n')) }.put o.dst (.row k 0 (xs.length + n')))) : o.wp C.P a w (liftK C K) Q := by
  obtain ⟨t, t2, d2, h0, h1, ht, ht2, hd2⟩ := hok.ex
  have hrk : rowE σ.pv k = some (i.size, xs) := by simp [rowE, hk]
  obtain ⟨z1, xs1, q1, q2, hxv⟩ := hF.ev rfl e1
  rw [hrk] at q1
  obtain ⟨rfl, rfl⟩ : i.size = z1 ∧ xs = xs1 := by simpa using q1
  obtain ⟨z2, ys2, q3, q4, hyv⟩ := hF.ev rfl e2
  rw [hj] at q3
  obtain ⟨h2, rfl⟩ : i.size = z2 ∧ ys = ys2 := by simpa using q3
  rw [← h2] at hyv
  obtain ⟨hyels, _⟩ := hH.row hj
  obtain ⟨hxels, hkrow⟩ := hH.pvs k _ hk
  have hnewels := hyels.part s n'
  have hlen' : ((ys.drop s).take n').length = n' := by simp; omega
  have hnewlen : (flats ((ys.drop s).take n')).length = n' * i.size := by rw [flats_len hnewels, hlen']
  have hxlen : (flats xs).length = xs.length * i.size := flats_len hxels
  have honec : ∀ v ∈ flats ((ys.drop s).take n'), v.oneCell' = true := fun v hv => by
    simp only [flats, List.mem_flatMap] at hv
    obtain ⟨g, hg, hv⟩ := hv
    exact GV.flat_one g (hnewels g hg).1 v hv
  have hallels := hxels.append hnewels
  have hall : (xs ++ (ys.drop s).take n').length = xs.length + n' := by rw [List.length_append, hlen']
  obtain ⟨hl1, hf1⟩ := hH.cells hj q4 hyv
  obtain ⟨q5, q6, q7⟩ := ({ σ with fr := kill k σ.fr, pv := updL σ.pv k (.row e i.size df (xs ++ (ys.drop s).take n')) } : SS).put_pv o.dst (.row k 0 (xs.length + n'))
  have hex := append_exec (o := o) (a := a) (t := t) (t2 := t2) (e := e) (d2 := d2) (i := i) ho hc ha hx hy
  have grow : ∀ (w2 : World), HR C loc σ.pv σ.ph σ.m w2 → ∀ sv old c0, evO a x' = sv → (∃ base, sv = .slice base xs.length c0) → (Builtin.firstCells i.size xs.length sv).run C.P w.drew = .ok (List.toArray old) w.drew → old = flats xs → ¬ xs.length + n' ≤ c0 → o.wp C.P a w (liftK C K) Q := by
    intro w2 _ sv old c0 hsv hb hold hof hroom
    obtain ⟨base, hb⟩ := hb
    subst hof
    obtain ⟨_, hf2⟩ := hH.drew'.cells hj q4 hyv
    obtain ⟨c', rest, g1, g2, g3⟩ := run_append_out (ty := o.type) h0 h1 ht ht2 hd2 hok.hi hok.hzv hok.hzs hok.hby hb hl1 hold hf2 hroom hsz
    have hr : (execOp a.eval o).run C.P w = .ok (.value (.slice (some ⟨w.heap.size, 0, none⟩) (xs.length + n') c')) (w.drew.alloc (.cells ((flats xs).toArray ++ (flats ((ys.drop s).take n')).toArray ++ rest) e)) := by
      rw [hex, Sem.run_bind, hsv, g3]; rfl
    unfold Oper.wp
    rw [hr, Oper.upon_value]
    have hmul : (c' - (xs.length + n')) * i.size + (xs.length + n') * i.size = c' * i.size := by rw [← Nat.add_mul]; congr 1; omega
    refine ⟨_, hK, fun q => if q = k then some (w.drew.heap.size, 0, c') else loc q, ?_, ?_⟩
    · rw [q5]
      refine hF.regrow hd (fun q hq => by simp [hq]) ?_ rfl
      refine ⟨i.size, _, by rw [rowE_upd, if_pos rfl], by rw [hall]; simp, ?_⟩
      simp [SlcV]
    · rw [q5, q6, q7]
      refine hH.drew'.alloc (c := c') (y := .row e i.size df (xs ++ (ys.drop s).take n')) rfl ⟨hallels, ?_⟩
      simp only [if_true]
      refine ⟨_, alloc_new, by rw [hall]; exact g1, ?_, ?_⟩
      · simp only [Array.size_append, List.size_toArray, hxlen, hnewlen, g2]
        rw [Nat.add_mul] at hmul; omega
      · intro q v hq
        have hq' : q < (flats xs).length + (flats ((ys.drop s).take n')).length := by
          rw [← List.length_append, ← flats_append]
          rcases Nat.lt_or_ge q (flats (xs ++ (ys.drop s).take n')).length with h' | h'
          · exact h'
          · simp [List.getElem?_eq_none h'] at hq
        rw [Nat.zero_add, Array.getElem?_append_left (by simpa using hq')]
        rw [flats_append] at hq
        simpa using hq
  cases hlk : loc k with
  | none =>
    rw [hlk] at hkrow hxv
    simp only at hkrow
    subst hkrow
    obtain ⟨base, hxv⟩ := hxv
    by_cases hn0 : n' = 0
    · subst hn0
      have hr : (execOp a.eval o).run C.P w = .ok (.value (.slice base 0 0)) w := by
        rw [hex, Sem.run_bind, hxv, run_append_nil0 (ty := o.type) h0 h1 ht ht2 hd2 hok.hi hl1 (by simpa [flats] using hf1)]; rfl
      unfold Oper.wp
      rw [hr, Oper.upon_value]
      refine ⟨_, hK, loc, ?_, ?_⟩
      · rw [q5]
        refine hF.regrow hd (fun _ _ => rfl) ?_ rfl
        exact ⟨i.size, _, by rw [rowE_upd, if_pos rfl], by simp, by rw [hlk]; exact ⟨base, rfl⟩⟩
      · rw [q5, q6, q7]; exact hH.samerow hk (by simp)
    · exact grow w hH _ _ 0 rfl ⟨base, by rw [hxv]; rfl⟩ (by rw [hxv]; cases base <;> simp [Builtin.firstCells, loadCells, loadCellsFrom] <;> rfl) (by simp [flats]) (by simp; omega)
  | some L =>
    obtain ⟨b, f, c0⟩ := L
    rw [hlk] at hkrow hxv
    simp only [SlcV] at hxv
    obtain ⟨cs, hb, hlen, hcs, hat⟩ := hkrow
    obtain ⟨ad, hxv, had⟩ := hxv
    simp only [Nat.sub_zero, Nat.zero_mul, Nat.add_zero] at hxv had
    by_cases hroom : xs.length + n' ≤ c0
    · by_cases hc0 : 0 < c0
      · have hadf := had hc0
        subst hadf
        have hmul : xs.length * i.size + n' * i.size ≤ c0 * i.size := by rw [← Nat.add_mul]; exact Nat.mul_le_mul_right _ hroom
        have hr : (execOp a.eval o).run C.P w = .ok (.value (.slice (some ⟨b, f, none⟩) (xs.length + n') c0)) (w.setBlk b (.cells (writeAt cs (f + xs.length * i.size) (flats ((ys.drop s).take n'))) e (0, 0))) := by
          rw [hex, Sem.run_bind, hxv, run_append_in (ty := o.type) h0 h1 ht ht2 hd2 hok.hi hl1 hf1 hroom hb (by rw [hnewlen]; omega) honec]; rfl
        unfold Oper.wp
        rw [hr, Oper.upon_value]
        have hlt : b < w.heap.size := (Array.getElem?_eq_some_iff.1 hb).1
        refine ⟨_, hK, loc, ?_, ?_⟩
        · rw [q5]
          refine hF.regrow hd (fun _ _ => rfl) ?_ rfl
          exact ⟨i.size, _, by rw [rowE_upd, if_pos rfl], by rw [hall]; simp, by rw [hlk]; exact ⟨⟨b, f, none⟩, by simp, fun _ => by simp⟩⟩
        · rw [q5, q6, q7]
          refine hH.write hk rfl hlk hlt (y' := .row e i.size df (xs ++ (ys.drop s).take n')) ⟨hallels, ?_⟩ rfl
          rw [hlk]
          refine ⟨_, setBlk_same hlt, by rw [hall]; exact hroom, by rw [writeAt_size]; exact hcs, ?_⟩
          rw [flats_append, ← hxlen]
          exact RowAt.app hat (by rw [hxlen, hnewlen]; omega)
      · obtain ⟨hz0, hz1, hz2⟩ : xs.length = 0 ∧ n' = 0 ∧ c0 = 0 := by omega
        subst hz1; subst hz2
        have hxs : xs = [] := List.length_eq_zero_iff.mp hz0
        subst hxs
        have hr : (execOp a.eval o).run C.P w = .ok (.value (.slice (some ad) 0 0)) w := by
          rw [hex, Sem.run_bind, hxv]
          simp only [List.length_nil]
          rw [run_append_nil0 (ty := o.type) h0 h1 ht ht2 hd2 hok.hi hl1 (by simpa [flats] using hf1)]; rfl
        unfold Oper.wp
        rw [hr, Oper.upon_value]
        refine ⟨_, hK, loc, ?_, ?_⟩
        · rw [q5]
          refine hF.regrow hd (fun _ _ => rfl) ?_ rfl
          exact ⟨i.size, _, by rw [rowE_upd, if_pos rfl], by simp, by rw [hlk]; exact ⟨ad, by simp, fun h => by omega⟩⟩
        · rw [q5, q6, q7]; exact hH.samerow hk (by simp)
    · refine grow w hH _ (flats xs) c0 rfl ⟨some ad, hxv⟩ ?_ rfl hroom
      rw [hxv]
      have hrow := hH.drew'.cells (s := 0) (n := xs.length) (v := .slice (some ad) xs.length c0) hrk (by simp) (by rw [hlk]; exact ⟨ad, by simp, fun h => by simpa using had h⟩)
      simpa using hrow.2

theorem wp_app_nil {c : Call} {x y : Operand} {x' y' : Opd} {e : TypeId} {i : TypeInfo} {zv : Value} {df : GV} (ho : o.op = .call c) (hc : c.callee = .builtin .append) (ha : c.args.toList = [x, y]) (hx : cOpd x = some x') (hy : cOpd y = some y') (hok : AppOk C.P c.argTypes e i zv)
    (hd : ∀ t, o.dst = some t → t < C.N) (hF : FR loc C.N σ.fr σ.pv a) (hH : HR C loc σ.pv σ.ph σ.m w) {k j s n' : Nat} {ys : List GV} (hdst : o.dst = some k) (e1 : ev σ x' = some (.g (.s (.slice none 0 0)))) (e2 : ev σ y' = some (.row j s n'))
    (hk : look σ.pv k = none) (hj : rowE σ.pv j = some (i.size, ys)) (hsz : n' * i.bytes ≤ 140737488355328)
    (hK : K { σ with fr := (k, .row k 0 n') :: σ.fr, pv := updL σ.pv k (.row e i.size df ((ys.drop s).take n')) }) : o.wp C.P a w (liftK C K) Q := by
  obtain ⟨t, t2, d2, h0, h1, ht, ht2, hd2⟩ := hok.ex
  have hxv : evO a x' = .slice none 0 0 := (hF.ev rfl e1).s
  obtain ⟨z2, ys2, q3, q4, hyv⟩ := hF.ev rfl e2
  rw [hj] at q3
  obtain ⟨h2, rfl⟩ : i.size = z2 ∧ ys = ys2 := by simpa using q3
  rw [← h2] at hyv
  obtain ⟨hyels, _⟩ := hH.row hj
  have hnewels := hyels.part s n'
  have hlen' : ((ys.drop s).take n').length = n' := by simp; omega
  have hnewlen : (flats ((ys.drop s).take n')).length = n' * i.size := by rw [flats_len hnewels, hlen']
  obtain ⟨hl1, hf1⟩ := hH.cells hj q4 hyv
  have hex := append_exec (o := o) (a := a) (t := t) (t2 := t2) (e := e) (d2 := d2) (i := i) ho hc ha hx hy
  by_cases hn0 : n' = 0
  · subst hn0
    have hr : (execOp a.eval o).run C.P w = .ok (.value (.slice none 0 0)) w := by
      rw [hex, Sem.run_bind, hxv, run_append_nil0 (ty := o.type) h0 h1 ht ht2 hd2 hok.hi hl1 (by simpa [flats] using hf1)]; rfl
    unfold Oper.wp
    rw [hr, Oper.upon_value]
    have hkN := hd k hdst
    refine ⟨_, hK, fun j => if j = k then none else loc j, ?_, ?_⟩
    · rw [hdst]
      refine ⟨hF.defers, by simp [Act.put, hF.size], fun t x hx => ?_⟩
      simp only [look] at hx
      by_cases ht : t = k
      · simp only [ht, if_true, Option.some.injEq] at hx
        subst hx; subst ht
        exact ⟨.slice none 0 0, by simp [Act.put, hF.size, hkN], i.size, _, by rw [rowE_upd, if_pos rfl], by simp, by simp [SlcV]⟩
      · simp only [ht, if_false] at hx
        obtain ⟨v, hv, hr⟩ := hF.slots t x hx
        refine ⟨v, by simp only [Act.put]; rw [Array.getElem?_setIfInBounds_ne (fun e => ht e.symm)]; exact hv, hr.weaken fun j hj => ?_⟩
        have hjk : j ≠ k := fun e => hr.there j hj (e ▸ hk)
        exact ⟨by simp [hjk], by simp [look_upd, hjk]⟩
    · refine ⟨hH.kept, fun q y1 hq => ?_, fun q q' y1 y2 b o1 c1 o2 c2 r1 r2 r3 r4 r5 r6 => ?_, fun q y1 b o1 c1 r1 r2 r3 => ?_, hH.mle, hH.mmine, hH.phs⟩
      · rw [look_upd] at hq
        by_cases e3 : q = k
        · simp only [e3, if_true, Option.some.injEq] at hq
          subst hq; subst e3
          exact ⟨hnewels, by simp⟩
        · simp only [e3, if_false] at hq
          have := hH.pvs q y1 hq
          cases y1 <;> simpa only [PVr, e3, if_false] using this
      · rw [look_upd] at r1 r4
        have n1 : q ≠ k := fun e3 => by subst e3; simp at r3
        have n2 : q' ≠ k := fun e3 => by subst e3; simp at r6
        simp only [n1, if_false] at r1 r3
        simp only [n2, if_false] at r4 r6
        exact hH.apart q q' y1 y2 b o1 c1 o2 c2 r1 r2 r3 r4 r5 r6
      · rw [look_upd] at r1
        have n1 : q ≠ k := fun e3 => by subst e3; simp at r3
        simp only [n1, if_false] at r1 r3
        exact hH.priv q y1 b o1 c1 r1 r2 r3
  · obtain ⟨_, hf2⟩ := hH.drew'.cells hj q4 hyv
    obtain ⟨c', rest, g1, g2, g3⟩ := run_append_out (ty := o.type) (sv := .slice none 0 0) (base := none) (n := 0) (cp := 0) (old := []) h0 h1 ht ht2 hd2 hok.hi hok.hzv hok.hzs hok.hby rfl hl1 (by simp [Builtin.firstCells]) hf2 (by omega) (by simpa using hsz)
    simp only [Nat.zero_add] at g1 g2 g3
    have hmul : (c' - n') * i.size + n' * i.size = c' * i.size := by rw [← Nat.add_mul]; congr 1; omega
    refine wp_newrow (w' := w.drew) (c := c') (cs := List.toArray [] ++ (flats ((ys.drop s).take n')).toArray ++ rest) (xs := (ys.drop s).take n') hdst hd ?_ hH.drew' hnewels (by omega) ?_ ?_ hF hk (by rw [hlen']; exact hK)
    · rw [hex, Sem.run_bind, hxv, g3, hlen']; rfl
    · simp only [Array.size_append, List.size_toArray, hnewlen, g2, List.length_nil]; omega
    · intro q v hq
      have hq' : q < (flats ((ys.drop s).take n')).length := by
        rcases Nat.lt_or_ge q (flats ((ys.drop s).take n')).length with h' | h'
        · exact h'
        · simp [List.getElem?_eq_none h'] at hq
      rw [Nat.zero_add, Array.getElem?_append_left (by simpa using hq')]
      simpa using hq

end

/-! ### Stores into memory -/
section
variable {C : Ctx} {loc : Loc} {σ : SS} {a : Act} {o : Oper} {w : World} {K : KT} {Q : Exit → Act → World → Prop}

theorem HR.memw {pv : List (Nat × PV)} {ph : List PH} {m : PH} (hH : HR C loc pv ph m w) {b : Nat} {ob ob' : Obj} (hb : m b = some ob) : HR C loc pv ph (m.upd b ob') (w.setBlk b ob') := by
  have hlt : b < w.heap.size := (Array.getElem?_eq_some_iff.1 (hH.mle b ob hb)).1
  have hmine := hH.mmine b (by simp [hb])
  have hph : ∀ u ∈ ph, u b = none := fun u hu => by
    cases h : u b with
    | none => rfl
    | some x => have := ((hH.phs u hu).2 b (by simp [h])).2; rw [hb] at this; cases this
  have hown : ∀ k y b' o c, look pv k = some y → y.own = true → loc k = some (b', o, c) → b' ≠ b := fun k y b' o c h1 h2 h3 e => by
    have := (hH.priv k y b' o c h1 h2 h3).2.1
    rw [e, hb] at this; cases this
  have hle : ∀ (u : PH), u b = none → u.le w → u.le (w.setBlk b ob') := fun u hn hu j o hj => by
    rw [setBlk_other (fun e => by subst e; rw [hn] at hj; cases hj)]
    exact hu j o hj
  refine ⟨?_, ?_, hH.apart, ?_, ?_, ?_, fun u hu => ⟨hle u (hph u hu) (hH.phs u hu).1, fun k hk => ⟨((hH.phs u hu).2 k hk).1, ?_⟩⟩⟩
  · obtain ⟨h1, h2, h3, h4, h5⟩ := hH.kept
    refine ⟨h1, h2, h3, by rw [setBlk_size]; exact h4, fun j hj hm => ?_⟩
    rw [setBlk_other (fun e => by subst e; rcases hmine with h | h; · omega
                                  · exact h hm)]
    exact h5 j hj hm
  · intro k y hk
    have hp := hH.pvs k y hk
    cases y with
    | box g =>
      obtain ⟨h0, b', c, e, hl, h2⟩ := hp
      exact ⟨h0, b', c, e, hl, by rw [setBlk_other (hown k _ b' 0 c hk rfl hl)]; exact h2⟩
    | row e z df xs =>
      refine ⟨hp.1, ?_⟩
      have hp2 := hp.2
      cases hl : loc k with
      | none => rw [hl] at hp2; exact hp2
      | some l =>
        obtain ⟨b', o', c⟩ := l
        rw [hl] at hp2
        obtain ⟨cs, h2, h3⟩ := hp2
        exact ⟨cs, by rw [setBlk_other (hown k _ b' o' c hk rfl hl)]; exact h2, h3⟩
    | ro z df xs => exact hp
  · intro k y b' o c h1 h2 h3
    obtain ⟨e1, e2, e3⟩ := hH.priv k y b' o c h1 h2 h3
    exact ⟨e1, by simp [PH.upd, hown k y b' o c h1 h2 h3, e2], e3⟩
  · intro k o hk
    simp only [PH.upd] at hk
    split at hk
    · rename_i e; subst e
      simp at hk; subst hk
      exact setBlk_same hlt
    · rename_i e
      rw [setBlk_other e]; exact hH.mle k o hk
  · intro k hk
    simp only [PH.upd] at hk
    split at hk
    · rename_i e; subst e; exact hmine
    · exact hH.mmine k hk
  · have hkb : k ≠ b := fun e => by subst e; exact hk (hph u hu)
    simp only [PH.upd, if_neg hkb]
    exact ((hH.phs u hu).2 k hk).2

theorem wp_st_mem {t : TypeId} {i : TypeInfo} {x v : Operand} {x' v' : Opd} (ho : o.op = .store t x v) (hi : C.P.info? t = some i) (hx : cOpd x = some x') (hv : cOpd v = some v') (hd : ∀ t, o.dst = some t → t < C.N)
    (hF : FR loc C.N σ.fr σ.pv a) (hH : HR C loc σ.pv σ.ph σ.m w) {b q : Nat} {y : GV} {cs : Array Value} {e : TypeId} (e1 : ev σ x' = some (.g (.s (.pointer (some ⟨b, q, none⟩))))) (e2 : ev σ v' = some (.g y)) (hm : σ.m b = some (.cells cs e (0, 0)))
    (hz : y.sz = i.size) (hl : q + i.size ≤ cs.size) (hK : K ({ σ with m := σ.m.upd b (.cells (writeAt cs q y.flat) e (0, 0)) }.put o.dst .no)) : o.wp C.P a w (liftK C K) Q := by
  have he := (hF.ev rfl e1).s
  obtain ⟨hyok, hev⟩ := hF.ev rfl e2
  have hb := hH.mle b _ hm
  have hrun : (execOp a.eval o).run C.P w = .ok .skip (w.setBlk b (.cells (writeAt cs q (GV.flat y)) e (0, 0))) := by
    simp only [execOp, ho, cOpd_eval hx a, cOpd_eval hv a, he, hev, Instr.storeAt, Instr.sureAddr, Sem.run_bind, Sem.run_pure, Result.andThen_ok]
    rw [run_storeVar' hi hyok hz hb hl]
    rfl
  unfold Oper.wp
  rw [hrun, Oper.upon_skip]
  have hH' := hH.memw (ob' := .cells (writeAt cs q (GV.flat y)) e (0, 0)) hm
  obtain ⟨q1, q2, q3⟩ := ({ σ with m := σ.m.upd b (.cells (writeAt cs q y.flat) e (0, 0)) } : SS).put_pv o.dst .no
  refine ⟨_, hK, loc, ?_, ?_⟩
  · rw [q1]
    exact hF.put (σ := { σ with m := σ.m.upd b (.cells (writeAt cs q y.flat) e (0, 0)) }) hd (x := .no) (v := undef) rfl rfl
  · rw [q1, q2, q3]; exact hH'

end

end Go.Proofs.Ytdpknchgoeboaaa.Vc
