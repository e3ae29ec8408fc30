/- A tree begun; a node put to it. -/
import Derived.Test.YtdpknchgoeboaaaTm2
set_option linter.unusedVariables false
set_option linter.unusedSimpArgs false
namespace Go.Proofs.Ytdpknchgoeboaaa.Vc
open Go

/-- A node that nothing is known of. -/
structure BareM (m : PH) (b a k : Nat) : Prop where
  ba : b ≠ a
  bk : b ≠ k
  ak : a ≠ k
  node : ∃ e, m b = some (.cells #[.int .i64 0, .string ⟨#[]⟩, .map (some a), .map (some k)] e (0, 0))
  attrs : ∃ o, m a = some o ∧ MapI none o []
  kids : ∃ o, m k = some o ∧ MapI (some .i64) o []

def Lay.add (L : Lay) (n : Int) (b a k : Nat) : Lay
  | .nd j => if j = n then b else L (.nd j)
  | .ab j => if j = n then a else L (.ab j)
  | .kb j => if j = n then k else L (.kb j)
  | r => L r
def PT.add (T : PT) (n : Int) : PT := { T with nodes := T.nodes ++ [(n, PN.bare)] }
theorem PT.get_add {T : PT} {n : Int} (h : T.get n = none) (j : Int) : (T.add n).get j = if j = n then some PN.bare else T.get j := by
  unfold PT.add PT.get at *
  simp only [getA_app]
  by_cases hj : j = n
  · subst hj; rw [h]; simp [getA]
  · rw [if_neg hj]
    cases getA T.nodes j with
    | none => simp [getA, Ne.symm hj]
    | some x => rfl

theorem TreeT.add {R : Role → Prop} {m mb : PH} {L : Lay} {T : PT} {idsV : Value} {n : Int} {b a k : Nat} {o' : Obj} (h : TreeT R m L T idsV) (hR : R .nb) (hb : BareM mb b a k) (hd : dis mb m) (hn : T.get n = none)
    (ho : MapI (some .i64) o' (mput (rawN L T.nodes) (.int .i64 n) (ptr b))) : TreeT R ((uni mb m).upd (L .nb) o') (L.add n b a k) (T.add n) idsV := by
  obtain ⟨onb, hnb, _⟩ := h.has .nb hR trivial
  have hmb : ∀ {j : Nat} {o : Obj}, m j = some o → mb j = none := fun {j o} hj => by
    rcases hd j with e | e
    · exact e
    · rw [e] at hj; cases hj
  have hold : ∀ r, R r → act T r → ∃ o, m (L r) = some o := fun r h1 h2 => by
    obtain ⟨o, h3, _⟩ := h.has r h1 h2
    exact ⟨o, h3⟩
  obtain ⟨e1, q1⟩ := hb.node
  obtain ⟨oa, q2, q2'⟩ := hb.attrs
  obtain ⟨ok, q3, q3'⟩ := hb.kids
  have hne : ∀ {j : Nat} {o : Obj}, mb j = some o → ∀ r, R r → act T r → L r ≠ j := fun {j o} hj r h1 h2 e => by
    obtain ⟨o2, h3⟩ := hold r h1 h2
    rw [e] at h3
    rw [hmb h3] at hj; cases hj
  have new : ∀ {j : Nat} {o : Obj}, mb j = some o → ((uni mb m).upd (L .nb) o') j = some o := fun {j o} hj => by
    rw [upd_ne (fun e => hne hj .nb hR trivial e.symm)]
    simp [uni, hj]
  have old : ∀ r, R r → act T r → r ≠ .nb → ∀ o, m (L r) = some o → ((uni mb m).upd (L .nb) o') (L r) = some o := fun r h1 h2 h3 o hj => by
    rw [upd_ne (fun e => h3 (h.sep r .nb h1 hR h2 trivial e))]
    simp [uni, hmb hj, hj]
  have hg := PT.get_add hn
  have hkey : n ∉ T.nodes.map (·.1) := getA_none.1 hn
  refine ⟨fun r hr ha => ?_, fun r s hr hs ha hb' => ?_, ?_⟩
  · cases r with
    | t =>
      obtain ⟨o, h1, h2⟩ := h.has .t hr trivial
      exact ⟨o, old .t hr trivial (by simp) o h1, h2⟩
    | nb =>
      refine ⟨o', upd_self _ _ _, ?_⟩
      show MapI (some .i64) o' (rawN (L.add n b a k) (T.nodes ++ [(n, PN.bare)]))
      rw [mput_rawN _ _ _ _ hn] at ho
      have e : rawN (L.add n b a k) (T.nodes ++ [(n, PN.bare)]) = rawN L T.nodes ++ [(.int .i64 n, ptr b)] := by
        have e1 : rawN (L.add n b a k) T.nodes = rawN L T.nodes := rawN_lay fun j x hj => by
          have : j ≠ n := fun e => hkey (List.mem_map.2 ⟨(j, x), hj, e⟩)
          simp [Lay.add, this]
        have e2 : ∀ (l r : List (Int × PN)) (M : Lay), rawN M (l ++ r) = rawN M l ++ rawN M r := fun l r M => by simp [rawN]
        rw [e2, e1]
        simp [rawN, Lay.add]
      rw [e]; exact ho
    | mk =>
      obtain ⟨o, h1, h2⟩ := h.has .mk hr trivial
      exact ⟨o, old .mk hr trivial (by simp) o h1, trivial⟩
    | nd j =>
      by_cases hj : j = n
      · subst hj
        refine ⟨_, by show ((uni mb m).upd (L .nb) o') (if j = j then b else _) = _; rw [if_pos rfl]; exact new q1, fun x hx => ?_⟩
        rw [hg, if_pos rfl] at hx
        cases hx
        exact ⟨e1, by simp [PN.bare, Lay.add]⟩
      · have ha' : act T (.nd j) := by obtain ⟨x, hx⟩ := ha; rw [hg, if_neg hj] at hx; exact ⟨x, hx⟩
        obtain ⟨o, h1, h2⟩ := h.has _ hr ha'
        refine ⟨o, by show ((uni mb m).upd (L .nb) o') (if j = n then b else _) = _; rw [if_neg hj]; exact old _ hr ha' (by simp) o h1, fun x hx => ?_⟩
        rw [hg, if_neg hj] at hx
        obtain ⟨e', he'⟩ := h2 x hx
        exact ⟨e', by rw [he']; simp [Lay.add, hj]⟩
    | ab j =>
      by_cases hj : j = n
      · subst hj
        refine ⟨_, by show ((uni mb m).upd (L .nb) o') (if j = j then a else _) = _; rw [if_pos rfl]; exact new q2, fun x hx => ?_⟩
        rw [hg, if_pos rfl] at hx
        cases hx
        exact q2'
      · have ha' : act T (.ab j) := by obtain ⟨x, hx⟩ := ha; rw [hg, if_neg hj] at hx; exact ⟨x, hx⟩
        obtain ⟨o, h1, h2⟩ := h.has _ hr ha'
        refine ⟨o, by show ((uni mb m).upd (L .nb) o') (if j = n then a else _) = _; rw [if_neg hj]; exact old _ hr ha' (by simp) o h1, fun x hx => ?_⟩
        rw [hg, if_neg hj] at hx
        exact h2 x hx
    | kb j =>
      by_cases hj : j = n
      · subst hj
        refine ⟨_, by show ((uni mb m).upd (L .nb) o') (if j = j then k else _) = _; rw [if_pos rfl]; exact new q3, fun x hx => ?_⟩
        rw [hg, if_pos rfl] at hx
        cases hx
        exact q3'
      · have ha' : act T (.kb j) := by obtain ⟨x, hx⟩ := ha; rw [hg, if_neg hj] at hx; exact ⟨x, hx⟩
        obtain ⟨o, h1, h2⟩ := h.has _ hr ha'
        refine ⟨o, by show ((uni mb m).upd (L .nb) o') (if j = n then k else _) = _; rw [if_neg hj]; exact old _ hr ha' (by simp) o h1, fun x hx => ?_⟩
        rw [hg, if_neg hj] at hx
        exact h2 x hx
  · -- each place is one role's
    intro e
    have cls : ∀ r, R r → act (T.add n) r → (r = .nd n ∧ (L.add n b a k) r = b) ∨ (r = .ab n ∧ (L.add n b a k) r = a) ∨ (r = .kb n ∧ (L.add n b a k) r = k) ∨ (act T r ∧ (L.add n b a k) r = L r) := by
      intro r hr ha
      cases r with
      | nd j =>
        by_cases hj : j = n
        · subst hj; exact .inl ⟨rfl, by simp [Lay.add]⟩
        · obtain ⟨x, hx⟩ := ha; rw [hg, if_neg hj] at hx
          exact .inr (.inr (.inr ⟨⟨x, hx⟩, by simp [Lay.add, hj]⟩))
      | ab j =>
        by_cases hj : j = n
        · subst hj; exact .inr (.inl ⟨rfl, by simp [Lay.add]⟩)
        · obtain ⟨x, hx⟩ := ha; rw [hg, if_neg hj] at hx
          exact .inr (.inr (.inr ⟨⟨x, hx⟩, by simp [Lay.add, hj]⟩))
      | kb j =>
        by_cases hj : j = n
        · subst hj; exact .inr (.inr (.inl ⟨rfl, by simp [Lay.add]⟩))
        · obtain ⟨x, hx⟩ := ha; rw [hg, if_neg hj] at hx
          exact .inr (.inr (.inr ⟨⟨x, hx⟩, by simp [Lay.add, hj]⟩))
      | t => exact .inr (.inr (.inr ⟨trivial, rfl⟩))
      | nb => exact .inr (.inr (.inr ⟨trivial, rfl⟩))
      | mk => exact .inr (.inr (.inr ⟨trivial, rfl⟩))
    rcases cls r hr ha with ⟨h1, h2⟩ | ⟨h1, h2⟩ | ⟨h1, h2⟩ | ⟨h1, h2⟩ <;> rcases cls s hs hb' with ⟨g1, g2⟩ | ⟨g1, g2⟩ | ⟨g1, g2⟩ | ⟨g1, g2⟩ <;> rw [h2, g2] at e
    · rw [h1, g1]
    · exact absurd e hb.ba
    · exact absurd e hb.bk
    · exact absurd e.symm (hne q1 s hs g1)
    · exact absurd e.symm hb.ba
    · rw [h1, g1]
    · exact absurd e hb.ak
    · exact absurd e.symm (hne q2 s hs g1)
    · exact absurd e.symm hb.bk
    · exact absurd e.symm hb.ak
    · rw [h1, g1]
    · exact absurd e.symm (hne q3 s hs g1)
    · exact absurd e (hne q1 r hr h1)
    · exact absurd e (hne q2 r hr h1)
    · exact absurd e (hne q3 r hr h1)
    · exact h.sep r s hr hs h1 g1 e
  · show ((T.nodes ++ [(n, PN.bare)]).map (·.1)).Nodup
    rw [List.map_append, List.nodup_append]
    refine ⟨h.nod, by simp, fun x hx y hy => ?_⟩
    simp only [List.map_cons, List.map_nil, List.mem_singleton] at hy
    subst hy
    exact fun e => hkey (e ▸ hx)

theorem TreeM.add {e : TypeId} {m mb : PH} {L : Lay} {T : PT} {n : Int} {b a k : Nat} {o' : Obj} (h : TreeM e m L T) (hb : BareM mb b a k) (hd : dis mb m) (hn : T.get n = none)
    (ho : MapI (some .i64) o' (mput (rawN L T.nodes) (.int .i64 n) (ptr b))) : TreeM e ((uni mb m).upd (L .nb) o') (L.add n b a k) (T.add n) := by
  obtain ⟨mi, mt, idsV, rfl, hdi, hi, ht⟩ := h
  obtain ⟨hd1, hd2⟩ := dis_of_uni_r hd
  obtain ⟨onb, hnb, _⟩ := ht.has .nb trivial trivial
  have hn' : mi (L .nb) = none := (uni_r hdi hnb).2
  have e1 : uni mb (uni mi mt) = uni mi (uni mb mt) := by rw [← uni_assoc, uni_comm hd1, uni_assoc]
  have hdis : dis mi (uni mb mt) := dis_uni_r (dis_comm hd1) hdi
  exact ⟨mi, (uni mb mt).upd (L .nb) o', idsV, by rw [e1, uni_upd hn'], dis_upd hdis hn', hi, ht.add trivial hb hd2 hn ho⟩

/-- No nodes. -/
def PT.empty : PT := ⟨[], [], 0⟩
def part (r : Role) : Prop := r ≠ .t ∧ r ≠ .mk
theorem TreeT.none {nb : Nat} {o : Obj} (ho : MapI (some .i64) o []) : TreeT part (one nb o) (fun _ => nb) PT.empty (.slice none 0 0) := by
  refine ⟨fun r hr ha => ?_, fun r s hr hs ha hb e => ?_, by simp [PT.empty]⟩
  · cases r with
    | t => exact absurd rfl hr.1
    | mk => exact absurd rfl hr.2
    | nb => exact ⟨o, by simp [one], ho⟩
    | nd k => obtain ⟨x, hx⟩ := ha; cases hx
    | ab k => obtain ⟨x, hx⟩ := ha; cases hx
    | kb k => obtain ⟨x, hx⟩ := ha; cases hx
  · have h1 : ∀ r, part r → act PT.empty r → r = .nb := fun r hr ha => by
      cases r with
      | t => exact absurd rfl hr.1
      | mk => exact absurd rfl hr.2
      | nb => rfl
      | nd k => obtain ⟨x, hx⟩ := ha; cases hx
      | ab k => obtain ⟨x, hx⟩ := ha; cases hx
      | kb k => obtain ⟨x, hx⟩ := ha; cases hx
    rw [h1 r hr ha, h1 s hs hb]
def Lay.top (L : Lay) (t k : Nat) : Lay
  | .t => t
  | .mk => k
  | r => L r
/-- The whole of it. -/
theorem TreeM.make {ei et : TypeId} {m : PH} {L : Lay} {l : List (Int × PN)} {t k : Nat} {om : Obj} (h : TreeT part m L ⟨l, [], 0⟩ (.slice none 0 0)) (hd1 : dis (one k om) m)
    (hd2 : dis (one t (.cells #[.map (some (L .nb)), ptr k, .int .i64 0, .slice none 0 0, .int .i64 0] et (0, 0))) (uni (one k om) m)) :
    TreeM ei (uni (one t (.cells #[.map (some (L .nb)), ptr k, .int .i64 0, .slice none 0 0, .int .i64 0] et (0, 0))) (uni (one k om) m)) (L.top t k) ⟨l, [], 0⟩ := by
  refine ⟨PH.no, _, .slice none 0 0, (uni_no _).symm, dis_no _, ⟨fun x hx => by simp at hx, .inl ⟨rfl, rfl⟩⟩, ?_⟩
  generalize hot : Obj.cells #[.map (some (L .nb)), ptr k, .int .i64 0, .slice none 0 0, .int .i64 0] et (0, 0) = ot at hd2 ⊢
  have hk : ∀ {j : Nat} {o : Obj}, m j = some o → j ≠ k ∧ j ≠ t := fun {j o} hj => by
    refine ⟨fun e => ?_, fun e => ?_⟩
    · subst e; rcases hd1 j with q | q
      · simp [one] at q
      · rw [q] at hj; cases hj
    · subst e; rcases hd2 j with q | q
      · simp [one] at q
      · have : uni (one k om) m j ≠ none := by
          unfold uni
          cases one k om j with
          | none => simp [hj]
          | some x => simp
        exact absurd q this
  have htk : t ≠ k := fun e => by
    subst e; rcases hd2 t with q | q
    · simp [one] at q
    · simp [uni, one] at q
  have hin : ∀ {j : Nat} {o : Obj}, m j = some o → uni (one t ot) (uni (one k om) m) j = some o := fun {j o} hj => by
    obtain ⟨h1, h2⟩ := hk hj
    simp [uni, one, h1, h2, hj]
  have hr : ∀ l' : List (Int × PN), rawN (L.top t k) l' = rawN L l' := fun l' => rawN_lay fun _ _ _ => rfl
  have cls : ∀ r, act ⟨l, [], 0⟩ r → r = .t ∨ r = .mk ∨ (part r ∧ (L.top t k) r = L r) := fun r _ => by
    cases r with
    | t => exact .inl rfl
    | mk => exact .inr (.inl rfl)
    | nb => exact .inr (.inr ⟨⟨by simp, by simp⟩, rfl⟩)
    | nd j => exact .inr (.inr ⟨⟨by simp, by simp⟩, rfl⟩)
    | ab j => exact .inr (.inr ⟨⟨by simp, by simp⟩, rfl⟩)
    | kb j => exact .inr (.inr ⟨⟨by simp, by simp⟩, rfl⟩)
  refine ⟨fun r _ ha => ?_, fun r s _ _ ha hb e => ?_, h.nod⟩
  · rcases cls r ha with rfl | rfl | ⟨hp, e⟩
    · refine ⟨ot, by simp [Lay.top, uni, one], et, ?_⟩
      rw [← hot]; rfl
    · refine ⟨om, by simp [Lay.top, uni, one, Ne.symm htk], trivial⟩
    · obtain ⟨o, h1, h2⟩ := h.has r hp ha
      refine ⟨o, by rw [e]; exact hin h1, ?_⟩
      cases r with
      | t => exact absurd rfl hp.1
      | mk => trivial
      | nb => show MapI _ _ _; rw [hr]; exact h2
      | nd j => exact h2
      | ab j => exact h2
      | kb j => exact h2
  · rcases cls r ha with rfl | rfl | ⟨hp, e1⟩ <;> rcases cls s hb with rfl | rfl | ⟨hp2, e2⟩
    · rfl
    · exact absurd e htk
    · obtain ⟨o, h1, _⟩ := h.has s hp2 hb
      rw [e2] at e
      exact absurd e.symm (hk h1).2
    · exact absurd e.symm htk
    · rfl
    · obtain ⟨o, h1, _⟩ := h.has s hp2 hb
      rw [e2] at e
      exact absurd e.symm (hk h1).1
    · obtain ⟨o, h1, _⟩ := h.has r hp ha
      rw [e1] at e
      exact absurd e (hk h1).2
    · obtain ⟨o, h1, _⟩ := h.has r hp ha
      rw [e1] at e
      exact absurd e (hk h1).1
    · obtain ⟨o, h1, _⟩ := h.has r hp ha
      rw [e1, e2] at e
      exact h.sep r s hp hp2 ha hb e
end Go.Proofs.Ytdpknchgoeboaaa.Vc
