/- Part 4 of what a law of this seat rests on. -/
import Derived.Test.YtmjiojflncffeaaGreatProg
import Derived.Shelf.SlIterI.Sorted
import Derived.Shelf.SlIter.Sorted
import Derived.Shelf.SortM.Plain
import Derived.Shelf.SortM.SortNone
import Derived.Ground.GgzProg
import Derived.Ground.SlgmProg
import Derived.Lib.SlKeysI
import Derived.ChangeSame
import Derived.JoinedOf
import Derived.JoinedAt
import Derived.JoinedStill
import Derived.WideKeyArgs
import Derived.OpenShut
import Derived.Deep.Slices
import Derived.SizedLaws
import Derived.HandedShaped
import Derived.Test.YtmjiojflncffeaaGreatRows
import Derived.Deep.DeepHandedRow
import Derived.LaidLaws
import Derived.Test.YtmjiojflncffeaaGreatZOa33
/- A tree begun; a node put to it. -/
set_option linter.unusedVariables false
set_option linter.unusedSimpArgs false
namespace Go.Proofs.YtmjiojflncffeaaGreat.Vc
open Go

/-- A node that nothing is known of. -/
structure BareM (m : PH) (b a k : Nat) : Prop where
  ba : b ≠ a
  bk : b ≠ k
  ak : a ≠ k
  node : ∃ e, m b = some (.cells #[.int .i64 0, .string ⟨#[]⟩, .map (some a), .map (some k)] e (0, 0))
  attrs : ∃ o, m a = some o ∧ MapI none o []
  kids : ∃ o, m k = some o ∧ MapI (some .i64) o []

def Lay.add (L : Lay) (n : Int) (b a k : Nat) : Lay
  | .nd j => if j = n then b else L (.nd j)
  | .ab j => if j = n then a else L (.ab j)
  | .kb j => if j = n then k else L (.kb j)
  | r => L r
def PT.add (T : PT) (n : Int) : PT := { T with nodes := T.nodes ++ [(n, PN.bare)] }
theorem PT.get_add {T : PT} {n : Int} (h : T.get n = none) (j : Int) : (T.add n).get j = if j = n then some PN.bare else T.get j := by
  unfold PT.add PT.get at *
  simp only [getA_app]
  by_cases hj : j = n
  · subst hj; rw [h]; simp [getA]
  · rw [if_neg hj]
    cases getA T.nodes j with
    | none => simp [getA, Ne.symm hj]
    | some x => rfl

theorem TreeT.add {R : Role → Prop} {m mb : PH} {L : Lay} {T : PT} {idsV : Value} {n : Int} {b a k : Nat} {o' : Obj} (h : TreeT R m L T idsV) (hR : R .nb) (hb : BareM mb b a k) (hd : dis mb m) (hn : T.get n = none)
    (ho : MapI (some .i64) o' (mput (rawN L T.nodes) (.int .i64 n) (ptr b))) : TreeT R ((uni mb m).upd (L .nb) o') (L.add n b a k) (T.add n) idsV := by
  obtain ⟨onb, hnb, _⟩ := h.has .nb hR trivial
  have hmb : ∀ {j : Nat} {o : Obj}, m j = some o → mb j = none := fun {j o} hj => by
    rcases hd j with e | e
    · exact e
    · rw [e] at hj; cases hj
  have hold : ∀ r, R r → act T r → ∃ o, m (L r) = some o := fun r h1 h2 => by
    obtain ⟨o, h3, _⟩ := h.has r h1 h2
    exact ⟨o, h3⟩
  obtain ⟨e1, q1⟩ := hb.node
  obtain ⟨oa, q2, q2'⟩ := hb.attrs
  obtain ⟨ok, q3, q3'⟩ := hb.kids
  have hne : ∀ {j : Nat} {o : Obj}, mb j = some o → ∀ r, R r → act T r → L r ≠ j := fun {j o} hj r h1 h2 e => by
    obtain ⟨o2, h3⟩ := hold r h1 h2
    rw [e] at h3
    rw [hmb h3] at hj; cases hj
  have new : ∀ {j : Nat} {o : Obj}, mb j = some o → ((uni mb m).upd (L .nb) o') j = some o := fun {j o} hj => by
    rw [upd_ne (fun e => hne hj .nb hR trivial e.symm)]
    simp [uni, hj]
  have old : ∀ r, R r → act T r → r ≠ .nb → ∀ o, m (L r) = some o → ((uni mb m).upd (L .nb) o') (L r) = some o := fun r h1 h2 h3 o hj => by
    rw [upd_ne (fun e => h3 (h.sep r .nb h1 hR h2 trivial e))]
    simp [uni, hmb hj, hj]
  have hg := PT.get_add hn
  have hkey : n ∉ T.nodes.map (·.1) := getA_none.1 hn
  refine ⟨fun r hr ha => ?_, fun r s hr hs ha hb' => ?_, ?_⟩
  · cases r with
    | t =>
      obtain ⟨o, h1, h2⟩ := h.has .t hr trivial
      exact ⟨o, old .t hr trivial (by simp) o h1, h2⟩
    | nb =>
      refine ⟨o', upd_self _ _ _, ?_⟩
      show MapI (some .i64) o' (rawN (L.add n b a k) (T.nodes ++ [(n, PN.bare)]))
      rw [mput_rawN _ _ _ _ hn] at ho
      have e : rawN (L.add n b a k) (T.nodes ++ [(n, PN.bare)]) = rawN L T.nodes ++ [(.int .i64 n, ptr b)] := by
        have e1 : rawN (L.add n b a k) T.nodes = rawN L T.nodes := rawN_lay fun j x hj => by
          have : j ≠ n := fun e => hkey (List.mem_map.2 ⟨(j, x), hj, e⟩)
          simp [Lay.add, this]
        have e2 : ∀ (l r : List (Int × PN)) (M : Lay), rawN M (l ++ r) = rawN M l ++ rawN M r := fun l r M => by simp [rawN]
        rw [e2, e1]
        simp [rawN, Lay.add]
      rw [e]; exact ho
    | mk =>
      obtain ⟨o, h1, h2⟩ := h.has .mk hr trivial
      exact ⟨o, old .mk hr trivial (by simp) o h1, trivial⟩
    | nd j =>
      by_cases hj : j = n
      · subst hj
        refine ⟨_, by show ((uni mb m).upd (L .nb) o') (if j = j then b else _) = _; rw [if_pos rfl]; exact new q1, fun x hx => ?_⟩
        rw [hg, if_pos rfl] at hx
        cases hx
        exact ⟨e1, by simp [PN.bare, Lay.add]⟩
      · have ha' : act T (.nd j) := by obtain ⟨x, hx⟩ := ha; rw [hg, if_neg hj] at hx; exact ⟨x, hx⟩
        obtain ⟨o, h1, h2⟩ := h.has _ hr ha'
        refine ⟨o, by show ((uni mb m).upd (L .nb) o') (if j = n then b else _) = _; rw [if_neg hj]; exact old _ hr ha' (by simp) o h1, fun x hx => ?_⟩
        rw [hg, if_neg hj] at hx
        obtain ⟨e', he'⟩ := h2 x hx
        exact ⟨e', by rw [he']; simp [Lay.add, hj]⟩
    | ab j =>
      by_cases hj : j = n
      · subst hj
        refine ⟨_, by show ((uni mb m).upd (L .nb) o') (if j = j then a else _) = _; rw [if_pos rfl]; exact new q2, fun x hx => ?_⟩
        rw [hg, if_pos rfl] at hx
        cases hx
        exact q2'
      · have ha' : act T (.ab j) := by obtain ⟨x, hx⟩ := ha; rw [hg, if_neg hj] at hx; exact ⟨x, hx⟩
        obtain ⟨o, h1, h2⟩ := h.has _ hr ha'
        refine ⟨o, by show ((uni mb m).upd (L .nb) o') (if j = n then a else _) = _; rw [if_neg hj]; exact old _ hr ha' (by simp) o h1, fun x hx => ?_⟩
        rw [hg, if_neg hj] at hx
        exact h2 x hx
    | kb j =>
      by_cases hj : j = n
      · subst hj
        refine ⟨_, by show ((uni mb m).upd (L .nb) o') (if j = j then k else _) = _; rw [if_pos rfl]; exact new q3, fun x hx => ?_⟩
        rw [hg, if_pos rfl] at hx
        cases hx
        exact q3'
      · have ha' : act T (.kb j) := by obtain ⟨x, hx⟩ := ha; rw [hg, if_neg hj] at hx; exact ⟨x, hx⟩
        obtain ⟨o, h1, h2⟩ := h.has _ hr ha'
        refine ⟨o, by show ((uni mb m).upd (L .nb) o') (if j = n then k else _) = _; rw [if_neg hj]; exact old _ hr ha' (by simp) o h1, fun x hx => ?_⟩
        rw [hg, if_neg hj] at hx
        exact h2 x hx
  · -- each place is one role's
    intro e
    have cls : ∀ r, R r → act (T.add n) r → (r = .nd n ∧ (L.add n b a k) r = b) ∨ (r = .ab n ∧ (L.add n b a k) r = a) ∨ (r = .kb n ∧ (L.add n b a k) r = k) ∨ (act T r ∧ (L.add n b a k) r = L r) := by
      intro r hr ha
      cases r with
      | nd j =>
        by_cases hj : j = n
        · subst hj; exact .inl ⟨rfl, by simp [Lay.add]⟩
        · obtain ⟨x, hx⟩ := ha; rw [hg, if_neg hj] at hx
          exact .inr (.inr (.inr ⟨⟨x, hx⟩, by simp [Lay.add, hj]⟩))
      | ab j =>
        by_cases hj : j = n
        · subst hj; exact .inr (.inl ⟨rfl, by simp [Lay.add]⟩)
        · obtain ⟨x, hx⟩ := ha; rw [hg, if_neg hj] at hx
          exact .inr (.inr (.inr ⟨⟨x, hx⟩, by simp [Lay.add, hj]⟩))
      | kb j =>
        by_cases hj : j = n
        · subst hj; exact .inr (.inr (.inl ⟨rfl, by simp [Lay.add]⟩))
        · obtain ⟨x, hx⟩ := ha; rw [hg, if_neg hj] at hx
          exact .inr (.inr (.inr ⟨⟨x, hx⟩, by simp [Lay.add, hj]⟩))
      | t => exact .inr (.inr (.inr ⟨trivial, rfl⟩))
      | nb => exact .inr (.inr (.inr ⟨trivial, rfl⟩))
      | mk => exact .inr (.inr (.inr ⟨trivial, rfl⟩))
    rcases cls r hr ha with ⟨h1, h2⟩ | ⟨h1, h2⟩ | ⟨h1, h2⟩ | ⟨h1, h2⟩ <;> rcases cls s hs hb' with ⟨g1, g2⟩ | ⟨g1, g2⟩ | ⟨g1, g2⟩ | ⟨g1, g2⟩ <;> rw [h2, g2] at e
    · rw [h1, g1]
    · exact absurd e hb.ba
    · exact absurd e hb.bk
    · exact absurd e.symm (hne q1 s hs g1)
    · exact absurd e.symm hb.ba
    · rw [h1, g1]
    · exact absurd e hb.ak
    · exact absurd e.symm (hne q2 s hs g1)
    · exact absurd e.symm hb.bk
    · exact absurd e.symm hb.ak
    · rw [h1, g1]
    · exact absurd e.symm (hne q3 s hs g1)
    · exact absurd e (hne q1 r hr h1)
    · exact absurd e (hne q2 r hr h1)
    · exact absurd e (hne q3 r hr h1)
    · exact h.sep r s hr hs h1 g1 e
  · show ((T.nodes ++ [(n, PN.bare)]).map (·.1)).Nodup
    rw [List.map_append, List.nodup_append]
    refine ⟨h.nod, by simp, fun x hx y hy => ?_⟩
    simp only [List.map_cons, List.map_nil, List.mem_singleton] at hy
    subst hy
    exact fun e => hkey (e ▸ hx)

theorem TreeM.add {e : TypeId} {m mb : PH} {L : Lay} {T : PT} {n : Int} {b a k : Nat} {o' : Obj} (h : TreeM e m L T) (hb : BareM mb b a k) (hd : dis mb m) (hn : T.get n = none)
    (ho : MapI (some .i64) o' (mput (rawN L T.nodes) (.int .i64 n) (ptr b))) : TreeM e ((uni mb m).upd (L .nb) o') (L.add n b a k) (T.add n) := by
  obtain ⟨mi, mt, idsV, rfl, hdi, hi, ht⟩ := h
  obtain ⟨hd1, hd2⟩ := dis_of_uni_r hd
  obtain ⟨onb, hnb, _⟩ := ht.has .nb trivial trivial
  have hn' : mi (L .nb) = none := (uni_r hdi hnb).2
  have e1 : uni mb (uni mi mt) = uni mi (uni mb mt) := by rw [← uni_assoc, uni_comm hd1, uni_assoc]
  have hdis : dis mi (uni mb mt) := dis_uni_r (dis_comm hd1) hdi
  exact ⟨mi, (uni mb mt).upd (L .nb) o', idsV, by rw [e1, uni_upd hn'], dis_upd hdis hn', hi, ht.add trivial hb hd2 hn ho⟩

/-- No nodes. -/
def PT.empty : PT := ⟨[], [], 0⟩
def part (r : Role) : Prop := r ≠ .t ∧ r ≠ .mk
theorem TreeT.none {nb : Nat} {o : Obj} (ho : MapI (some .i64) o []) : TreeT part (one nb o) (fun _ => nb) PT.empty (.slice none 0 0) := by
  refine ⟨fun r hr ha => ?_, fun r s hr hs ha hb e => ?_, by simp [PT.empty]⟩
  · cases r with
    | t => exact absurd rfl hr.1
    | mk => exact absurd rfl hr.2
    | nb => exact ⟨o, by simp [one], ho⟩
    | nd k => obtain ⟨x, hx⟩ := ha; cases hx
    | ab k => obtain ⟨x, hx⟩ := ha; cases hx
    | kb k => obtain ⟨x, hx⟩ := ha; cases hx
  · have h1 : ∀ r, part r → act PT.empty r → r = .nb := fun r hr ha => by
      cases r with
      | t => exact absurd rfl hr.1
      | mk => exact absurd rfl hr.2
      | nb => rfl
      | nd k => obtain ⟨x, hx⟩ := ha; cases hx
      | ab k => obtain ⟨x, hx⟩ := ha; cases hx
      | kb k => obtain ⟨x, hx⟩ := ha; cases hx
    rw [h1 r hr ha, h1 s hs hb]
def Lay.top (L : Lay) (t k : Nat) : Lay
  | .t => t
  | .mk => k
  | r => L r
/-- The whole of it. -/
theorem TreeM.make {ei et : TypeId} {m : PH} {L : Lay} {l : List (Int × PN)} {t k : Nat} {om : Obj} (h : TreeT part m L ⟨l, [], 0⟩ (.slice none 0 0)) (hd1 : dis (one k om) m)
    (hd2 : dis (one t (.cells #[.map (some (L .nb)), ptr k, .int .i64 0, .slice none 0 0, .int .i64 0] et (0, 0))) (uni (one k om) m)) :
    TreeM ei (uni (one t (.cells #[.map (some (L .nb)), ptr k, .int .i64 0, .slice none 0 0, .int .i64 0] et (0, 0))) (uni (one k om) m)) (L.top t k) ⟨l, [], 0⟩ := by
  refine ⟨PH.no, _, .slice none 0 0, (uni_no _).symm, dis_no _, ⟨fun x hx => by simp at hx, .inl ⟨rfl, rfl⟩⟩, ?_⟩
  generalize hot : Obj.cells #[.map (some (L .nb)), ptr k, .int .i64 0, .slice none 0 0, .int .i64 0] et (0, 0) = ot at hd2 ⊢
  have hk : ∀ {j : Nat} {o : Obj}, m j = some o → j ≠ k ∧ j ≠ t := fun {j o} hj => by
    refine ⟨fun e => ?_, fun e => ?_⟩
    · subst e; rcases hd1 j with q | q
      · simp [one] at q
      · rw [q] at hj; cases hj
    · subst e; rcases hd2 j with q | q
      · simp [one] at q
      · have : uni (one k om) m j ≠ none := by
          unfold uni
          cases one k om j with
          | none => simp [hj]
          | some x => simp
        exact absurd q this
  have htk : t ≠ k := fun e => by
    subst e; rcases hd2 t with q | q
    · simp [one] at q
    · simp [uni, one] at q
  have hin : ∀ {j : Nat} {o : Obj}, m j = some o → uni (one t ot) (uni (one k om) m) j = some o := fun {j o} hj => by
    obtain ⟨h1, h2⟩ := hk hj
    simp [uni, one, h1, h2, hj]
  have hr : ∀ l' : List (Int × PN), rawN (L.top t k) l' = rawN L l' := fun l' => rawN_lay fun _ _ _ => rfl
  have cls : ∀ r, act ⟨l, [], 0⟩ r → r = .t ∨ r = .mk ∨ (part r ∧ (L.top t k) r = L r) := fun r _ => by
    cases r with
    | t => exact .inl rfl
    | mk => exact .inr (.inl rfl)
    | nb => exact .inr (.inr ⟨⟨by simp, by simp⟩, rfl⟩)
    | nd j => exact .inr (.inr ⟨⟨by simp, by simp⟩, rfl⟩)
    | ab j => exact .inr (.inr ⟨⟨by simp, by simp⟩, rfl⟩)
    | kb j => exact .inr (.inr ⟨⟨by simp, by simp⟩, rfl⟩)
  refine ⟨fun r _ ha => ?_, fun r s _ _ ha hb e => ?_, h.nod⟩
  · rcases cls r ha with rfl | rfl | ⟨hp, e⟩
    · refine ⟨ot, by simp [Lay.top, uni, one], et, ?_⟩
      rw [← hot]; rfl
    · refine ⟨om, by simp [Lay.top, uni, one, Ne.symm htk], trivial⟩
    · obtain ⟨o, h1, h2⟩ := h.has r hp ha
      refine ⟨o, by rw [e]; exact hin h1, ?_⟩
      cases r with
      | t => exact absurd rfl hp.1
      | mk => trivial
      | nb => show MapI _ _ _; rw [hr]; exact h2
      | nd j => exact h2
      | ab j => exact h2
      | kb j => exact h2
  · rcases cls r ha with rfl | rfl | ⟨hp, e1⟩ <;> rcases cls s hb with rfl | rfl | ⟨hp2, e2⟩
    · rfl
    · exact absurd e htk
    · obtain ⟨o, h1, _⟩ := h.has s hp2 hb
      rw [e2] at e
      exact absurd e.symm (hk h1).2
    · exact absurd e.symm htk
    · rfl
    · obtain ⟨o, h1, _⟩ := h.has s hp2 hb
      rw [e2] at e
      exact absurd e.symm (hk h1).1
    · obtain ⟨o, h1, _⟩ := h.has r hp ha
      rw [e1] at e
      exact absurd e (hk h1).2
    · obtain ⟨o, h1, _⟩ := h.has r hp ha
      rw [e1] at e
      exact absurd e (hk h1).1
    · obtain ⟨o, h1, _⟩ := h.has r hp ha
      rw [e1, e2] at e
      exact h.sep r s hp hp2 ha hb e
end Go.Proofs.YtmjiojflncffeaaGreat.Vc

/- A node, a tree: made. -/
set_option linter.unusedVariables false
set_option linter.unusedSimpArgs false
set_option maxRecDepth 100000
namespace Go.Proofs.YtmjiojflncffeaaGreat.Vc
open Go Go.Proofs

theorem mup_node {R : Role → Prop} {m mb : PH} {L : Lay} {T : PT} {idsV : Value} {n : Int} {b : Nat} {d : Option Nat} {σ : SS} {K : KT} (h : TreeT R m L T idsV) (hR : R .nb) (hd : dis mb m) (hm : σ.m = uni mb m)
    (hK : ∀ o', MapI (some .i64) o' (mput (rawN L T.nodes) (.int .i64 n) (ptr b)) → K ({ σ with m := (uni mb m).upd (L .nb) o' }.put d .no)) : mupK (some .i64) (L .nb) (.int .i64 n) (.pointer (some ⟨b, 0, none⟩)) d K σ := by
  obtain ⟨o, h1, h2⟩ := h.has .nb hR trivial
  refine ⟨o, _, by rw [hm]; exact (uni_r hd h1).1, h2, rfl, fun o' ho' => ?_⟩
  have := hK o' ho'
  rwa [hm]

theorem bare_spec (w : World) : Spec Tryz.prog f_tree_bare [] PH.no w fun rs m' => ∃ b a k, rs = [.s (ptr b)] ∧ BareM m' b a k := by
  refine spec_of k_tree_bare [] (by simp) (by simp [AV.ok]) ?_
  simp (maxSteps := 2000000) only [c_tree_bare, vc_seq, vc_rg, thenQ_n, kKeep_eq, segs_nil, segs_n, ops_nil, ops_cons, vcOp, ev, put_mk, keep_mk, keepL, Value.oneCell', cond_true, initF, initP, gPlace_zero, ptr]
  intro a oa ha _
  simp (maxSteps := 2000000) only [ops_cons, vcOp, put_mk]
  intro k ok hk hdk
  simp (maxSteps := 2000000) only [ops_cons, vcOp, ev, evL, gvL, look, updL, put_mk, GV.getT, GV.same, GV.setT, Nat.reduceEqDiff, ↓reduceIte, Bool.and_true, Bool.true_and, true_and, and_true, List.map_cons, List.map_nil, Option.map_some, GV.bldT, GV.bldC]
  refine ⟨⟨rfl, rfl⟩, gh_pubBox 0 4 rfl rfl fun v u hv hp hd => ?_⟩
  obtain ⟨hok, b, e, rfl, rfl⟩ := hp
  simp (maxSteps := 2000000) only [vc_ret, thenQ_n, kKeep_eq, finQ_r, segs_nil, ops_nil, look, keep_mk, keepL, cond_true, cond_false, ↓reduceIte, BEq.rfl, kill, SV.mentions]
  refine fin_m _ rfl (fun _ _ h => h) ⟨b, a, k, rfl, ?_⟩
  rw [uni_no_r] at hdk hd ⊢
  have hak : a ≠ k := fun e => by subst e; rcases hdk a with q | q <;> simp [one] at q
  have hbk : b ≠ k := fun e => by subst e; rcases hd b with q | q <;> simp [one, uni] at q
  have hba : b ≠ a := fun e => by subst e; rcases hd b with q | q <;> simp [one, uni, hak] at q
  exact ⟨hba, hbk, hak, ⟨e, by simp [uni, one]; rfl⟩, ⟨oa, by simp [uni, one, Ne.symm hba, hak], ha _⟩, ⟨ok, by simp [uni, one, Ne.symm hbk], hk _⟩⟩

def T0 : PT := ⟨[(1, PN.bare), (2, PN.bare)], [], 0⟩
theorem New_spec (w : World) : Spec Tryz.prog f_tree_New [] PH.no w fun rs m' => ∃ L, rs = [.s (ptr (L .t))] ∧ TM m' L T0 := by
  refine spec_of k_tree_New [] (by simp) (by simp [AV.ok]) ?_
  simp (maxSteps := 2000000) only [c_tree_New, vc_seq, vc_rg, thenQ_n, kKeep_eq, segs_nil, segs_n, ops_nil, ops_cons, vcOp, ev, put_mk, keep_mk, keepL, Value.oneCell', cond_true, initF, initP, ptr]
  intro nb o0 ho0 _
  simp (maxSteps := 2000000) only [ops_cons, vcOp, put_mk]
  refine call_ownm rfl rfl (Q := fun rs m' => ∃ b a k, rs = [.s (ptr b)] ∧ BareM m' b a k) (fun w' vs hv hw _ _ => ?_) fun rs m1 _ hq hd1 => ?_
  · obtain rfl := argsV_nil hv
    exact bare_spec w'
  obtain ⟨b1, a1, k1, rfl, hb1⟩ := hq
  simp (maxSteps := 2000000) only [retS, ops_cons, vcOp, ev, look, put_mk, Value.oneCell', cond_true, Nat.reduceEqDiff, ↓reduceIte, ptr]
  have hd1' : dis m1 (one nb o0) := by have := hd1; simp only [uni_no_r] at this; exact this
  have t0 := TreeT.none (nb := nb) (ho0 (some .i64))
  refine mup_node (L := fun _ => nb) (T := PT.empty) t0 ⟨by simp, by simp⟩ hd1' (by rw [uni_no_r]) fun o1 ho1 => ?_
  have t1 := t0.add ⟨by simp, by simp⟩ hb1 hd1' rfl ho1
  generalize hM1 : (uni m1 (one nb o0)).upd nb o1 = M1 at *
  simp (maxSteps := 2000000) only [ops_cons, vcOp, put_mk0]
  refine call_ownm rfl rfl (Q := fun rs m' => ∃ b a k, rs = [.s (ptr b)] ∧ BareM m' b a k) (fun w' vs hv hw _ _ => ?_) fun rs m2 _ hq hd2 => ?_
  · obtain rfl := argsV_nil hv
    exact bare_spec w'
  obtain ⟨b2, a2, k2, rfl, hb2⟩ := hq
  simp (maxSteps := 2000000) only [retS, ops_cons, vcOp, ev, look, put_mk, Value.oneCell', cond_true, Nat.reduceEqDiff, ↓reduceIte, ptr]
  refine mup_node t1 ⟨by simp, by simp⟩ hd2 rfl fun o2 ho2 => ?_
  have t2 := t1.add ⟨by simp, by simp⟩ hb2 hd2 rfl ho2
  generalize hM2 : (uni m2 M1).upd _ o2 = M2 at *
  simp (maxSteps := 2000000) only [ops_cons, vcOp, ev, evL, gvL, look, updL, put_mk, put_mk0, Nat.reduceEqDiff, ↓reduceIte, Bool.true_and, true_and, List.map_nil, GV.bldT, GV.bldC]
  refine gh_pubBox 6 6 rfl rfl fun v u hv hp hd => ?_
  obtain ⟨hok, k, e, rfl, rfl⟩ := hp
  simp (maxSteps := 2000000) only [dropK, ops_cons, vcOp, ev, evL, gvL, look, updL, put_mk, GV.getT, GV.same, GV.setT, cond_true, cond_false, Nat.reduceEqDiff, ↓reduceIte, Bool.and_true, Bool.true_and, BEq.rfl, true_and, and_true, List.map_cons, List.map_nil, Option.map_some, kill, SV.mentions, GV.bldT, GV.bldC]
  refine ⟨⟨rfl, rfl⟩, gh_pubBox 0 8 rfl rfl fun v u hv' hp' hd' => ?_⟩
  obtain ⟨hok', t, e', rfl, rfl⟩ := hp'
  simp (maxSteps := 2000000) only [vc_ret, thenQ_n, kKeep_eq, finQ_r, segs_nil, ops_nil, look, keep_mk, keepL, cond_true, cond_false, ↓reduceIte, BEq.rfl, kill, SV.mentions]
  have hM := TreeM.make (ei := 3) (et := e') (m := M2) (L := (Lay.add (fun x => nb) 1 b1 a1 k1).add 2 b2 a2 k2) (l := T0.nodes) (t := t) (k := k) t2 hd hd'
  exact fin_m _ rfl (fun _ _ h => h) ⟨_, rfl, hM⟩
end Go.Proofs.YtmjiojflncffeaaGreat.Vc

/- A tree written to. -/
set_option linter.unusedVariables false
set_option linter.unusedSimpArgs false
namespace Go.Proofs.YtmjiojflncffeaaGreat.Vc
open Go

section
variable {e : TypeId} {m : PH} {L : Lay} {T : PT} {k : Int} {x : PN}
theorem act_mod {f : PN → PN} {s : Role} (h : act (T.mod k f) s) : act T s := by
  have key : ∀ j n, (T.mod k f).get j = some n → ∃ n', T.get j = some n' := fun j n hn => by
    rw [PT.get_mod] at hn
    split at hn
    · cases hg : T.get j with
      | none => rw [hg] at hn; cases hn
      | some y => exact ⟨y, rfl⟩
    · exact ⟨n, hn⟩
  cases s with
  | nd j => obtain ⟨n, hn⟩ := h; exact key j n hn
  | ab j => obtain ⟨n, hn⟩ := h; exact key j n hn
  | kb j => obtain ⟨n, hn⟩ := h; exact key j n hn
  | t => trivial
  | nb => trivial
  | mk => trivial
theorem get_mod_self {f : PN → PN} (hx : T.get k = some x) : (T.mod k f).get k = some (f x) := by rw [PT.get_mod, if_pos rfl, hx]; rfl
theorem get_mod_ne {f : PN → PN} {j : Int} (h : j ≠ k) : (T.mod k f).get j = T.get j := by rw [PT.get_mod, if_neg h]

theorem TreeM.modKids {f : PN → PN} (h : TreeM e m L T) (hx : T.get k = some x) (hf : ∀ y, (f y).parent = y.parent ∧ (f y).name = y.name ∧ (f y).attrs = y.attrs) {o' : Obj} (ho : MapI (some .i64) o' (rawK (f x).kids)) : TreeM e (m.upd (L (.kb k)) o') L (T.mod k f) := by
  refine h.upd (.kb k) ⟨x, hx⟩ o' rfl (fun s => act_mod) (by rw [PT.mod, keys_mod]; exact h.nod) (fun idsV o _ => fun n hn => ?_) fun s hs ha idsV o hh => ?_
  · rw [get_mod_self hx] at hn; cases hn; exact ho
  · cases s with
    | t => exact hh
    | mk => trivial
    | nb => show MapI _ _ _; rw [PT.mod, rawN_mod]; exact hh
    | nd j =>
      intro n hn
      by_cases hj : j = k
      · subst hj; rw [get_mod_self hx] at hn; cases hn
        obtain ⟨h1, h2, _⟩ := hf x
        obtain ⟨e', he'⟩ := hh x hx
        exact ⟨e', by rw [he', h1, h2]⟩
      · rw [get_mod_ne hj] at hn; exact hh n hn
    | ab j =>
      intro n hn
      by_cases hj : j = k
      · subst hj; rw [get_mod_self hx] at hn; cases hn
        rw [(hf x).2.2]; exact hh x hx
      · rw [get_mod_ne hj] at hn; exact hh n hn
    | kb j =>
      intro n hn
      by_cases hj : j = k
      · subst hj; exact absurd rfl hs
      · rw [get_mod_ne hj] at hn; exact hh n hn
theorem TreeM.modAttrs {f : PN → PN} (h : TreeM e m L T) (hx : T.get k = some x) (hf : ∀ y, (f y).parent = y.parent ∧ (f y).name = y.name ∧ (f y).kids = y.kids) {o' : Obj} (ho : MapI none o' (rawA (f x).attrs)) : TreeM e (m.upd (L (.ab k)) o') L (T.mod k f) := by
  refine h.upd (.ab k) ⟨x, hx⟩ o' rfl (fun s => act_mod) (by rw [PT.mod, keys_mod]; exact h.nod) (fun idsV o _ => fun n hn => ?_) fun s hs ha idsV o hh => ?_
  · rw [get_mod_self hx] at hn; cases hn; exact ho
  · cases s with
    | t => exact hh
    | mk => trivial
    | nb => show MapI _ _ _; rw [PT.mod, rawN_mod]; exact hh
    | nd j =>
      intro n hn
      by_cases hj : j = k
      · subst hj; rw [get_mod_self hx] at hn; cases hn
        obtain ⟨h1, h2, _⟩ := hf x
        obtain ⟨e', he'⟩ := hh x hx
        exact ⟨e', by rw [he', h1, h2]⟩
      · rw [get_mod_ne hj] at hn; exact hh n hn
    | kb j =>
      intro n hn
      by_cases hj : j = k
      · subst hj; rw [get_mod_self hx] at hn; cases hn
        rw [(hf x).2.2]; exact hh x hx
      · rw [get_mod_ne hj] at hn; exact hh n hn
    | ab j =>
      intro n hn
      by_cases hj : j = k
      · subst hj; exact absurd rfl hs
      · rw [get_mod_ne hj] at hn; exact hh n hn
theorem TreeM.modPlace {f : PN → PN} (h : TreeM e m L T) (hx : T.get k = some x) (hf : ∀ y, (f y).attrs = y.attrs ∧ (f y).kids = y.kids) {e' : TypeId} : TreeM e (m.upd (L (.nd k)) (.cells #[.int .i64 (f x).parent, .string (f x).name, .map (some (L (.ab k))), .map (some (L (.kb k)))] e' (0, 0))) L (T.mod k f) := by
  refine h.upd (.nd k) ⟨x, hx⟩ _ rfl (fun s => act_mod) (by rw [PT.mod, keys_mod]; exact h.nod) (fun idsV o _ => fun n hn => ?_) fun s hs ha idsV o hh => ?_
  · rw [get_mod_self hx] at hn; cases hn; exact ⟨e', rfl⟩
  · cases s with
    | t => exact hh
    | mk => trivial
    | nb => show MapI _ _ _; rw [PT.mod, rawN_mod]; exact hh
    | nd j =>
      intro n hn
      by_cases hj : j = k
      · subst hj; exact absurd rfl hs
      · rw [get_mod_ne hj] at hn; exact hh n hn
    | ab j =>
      intro n hn
      by_cases hj : j = k
      · subst hj; rw [get_mod_self hx] at hn; cases hn
        rw [(hf x).1]; exact hh x hx
      · rw [get_mod_ne hj] at hn; exact hh n hn
    | kb j =>
      intro n hn
      by_cases hj : j = k
      · subst hj; rw [get_mod_self hx] at hn; cases hn
        rw [(hf x).2]; exact hh x hx
      · rw [get_mod_ne hj] at hn; exact hh n hn

def PT.unkid (T : PT) (k n : Int) : PT := T.mod k fun x => { x with kids := x.kids.erase n }
def PT.kid (T : PT) (k n : Int) : PT := T.mod k fun x => { x with kids := putK x.kids n }
def PT.place (T : PT) (n parent : Int) (name : ByteArray) : PT := T.mod n fun x => { x with parent := parent, name := name }
def PT.attr (T : PT) (n : Int) (key value : ByteArray) : PT := T.mod n fun x => { x with attrs := if value = ⟨#[]⟩ then delS x.attrs key else putS x.attrs key value }
def PT.del (T : PT) (n : Int) : PT := { T with nodes := delA T.nodes n }
theorem mod_none {f : PN → PN} (h : T.get k = none) : T.mod k f = T := by
  have : ∀ l : List (Int × PN), getA l k = none → modA f l k = l := by
    intro l
    induction l with
    | nil => intro _; rfl
    | cons p l ih =>
      obtain ⟨j, y⟩ := p
      intro h
      by_cases hj : j = k
      · simp [getA, hj] at h
      · simp only [getA, hj, if_false] at h
        simp only [modA, hj, if_false, ih h]
  unfold PT.mod
  rw [this _ h]

variable {C : Ctx} {σ : SS} {d : Option Nat} {K : KT} {n : Int}
theorem TreeM.unkid (h : TreeM e σ.m L T) (hx : T.get k = some x) (hK : ∀ m', TreeM e m' L (T.unkid k n) → K ({ σ with m := m' }.put d (.tup []))) : mdlK (some .i64) (L (.kb k)) (.int .i64 n) d K σ := by
  obtain ⟨o, idsV, h1, h2⟩ := h.at (.kb k) ⟨x, hx⟩
  refine ⟨o, _, h1, h2 x hx, rfl, fun o' ho' => hK _ ?_⟩
  rw [mdel_rawK] at ho'
  exact h.modKids (f := fun x => { x with kids := x.kids.erase n }) hx (fun y => ⟨rfl, rfl, rfl⟩) ho'
theorem TreeM.kid (h : TreeM e σ.m L T) (hx : T.get k = some x) (hK : ∀ m', TreeM e m' L (T.kid k n) → K ({ σ with m := m' }.put d .no)) : mupK (some .i64) (L (.kb k)) (.int .i64 n) (.int .i64 1) d K σ := by
  obtain ⟨o, idsV, h1, h2⟩ := h.at (.kb k) ⟨x, hx⟩
  refine ⟨o, _, h1, h2 x hx, rfl, fun o' ho' => hK _ ?_⟩
  rw [mput_rawK] at ho'
  exact h.modKids (f := fun x => { x with kids := putK x.kids n }) hx (fun y => ⟨rfl, rfl, rfl⟩) ho'
theorem TreeM.place (h : TreeM e σ.m L T) (hx : T.get k = some x) {p : Place} (hK : ∀ m', TreeM e m' L (T.place k p.parent p.name) → K ({ σ with m := m' }.put d .no)) : stK σ (L (.nd k)) 0 2 (gPlace p) d K := by
  obtain ⟨o, idsV, h1, h2⟩ := h.at (.nd k) ⟨x, hx⟩
  obtain ⟨e', rfl⟩ := h2 x hx
  refine st_of (gPlace_sz p) _ e' ⟨h1, by simp⟩ ?_
  have := h.modPlace (f := fun x => { x with parent := p.parent, name := p.name }) hx (fun y => ⟨rfl, rfl⟩) (e' := e')
  exact hK _ this
theorem TreeM.attrDel {key : ByteArray} (h : TreeM e σ.m L T) (hx : T.get k = some x) (hK : ∀ m', TreeM e m' L (T.attr k key ⟨#[]⟩) → K ({ σ with m := m' }.put d (.tup []))) : mdlK none (L (.ab k)) (.string key) d K σ := by
  obtain ⟨o, idsV, h1, h2⟩ := h.at (.ab k) ⟨x, hx⟩
  refine ⟨o, _, h1, h2 x hx, trivial, fun o' ho' => hK _ ?_⟩
  rw [mdel_rawA] at ho'
  exact h.modAttrs (f := fun x => { x with attrs := if (⟨#[]⟩ : ByteArray) = ⟨#[]⟩ then delS x.attrs key else putS x.attrs key ⟨#[]⟩ }) hx (fun y => ⟨rfl, rfl, rfl⟩) (by simp only [if_true]; exact ho')
theorem TreeM.attrPut {key value : ByteArray} (hv : value ≠ ⟨#[]⟩) (h : TreeM e σ.m L T) (hx : T.get k = some x) (hK : ∀ m', TreeM e m' L (T.attr k key value) → K ({ σ with m := m' }.put d .no)) : mupK none (L (.ab k)) (.string key) (.string value) d K σ := by
  obtain ⟨o, idsV, h1, h2⟩ := h.at (.ab k) ⟨x, hx⟩
  refine ⟨o, _, h1, h2 x hx, trivial, fun o' ho' => hK _ ?_⟩
  rw [mput_rawA] at ho'
  exact h.modAttrs (f := fun x => { x with attrs := if value = ⟨#[]⟩ then delS x.attrs key else putS x.attrs key value }) hx (fun y => ⟨rfl, rfl, rfl⟩) (by simp only [if_neg hv]; exact ho')
theorem TreeM.delNode (h : TreeM e σ.m L T) (hK : ∀ m', TreeM e m' L (T.del n) → K ({ σ with m := m' }.put d (.tup []))) : mdlK (some .i64) (L .nb) (.int .i64 n) d K σ := by
  obtain ⟨o, idsV, h1, h2⟩ := h.at .nb trivial
  have hg : ∀ j y, (T.del n).get j = some y → j ≠ n ∧ T.get j = some y := fun j y hy => by
    unfold PT.get PT.del at hy
    rw [getA_del h.nod] at hy
    split at hy
    · cases hy
    · rename_i hj; exact ⟨hj, hy⟩
  have hact : ∀ s, act (T.del n) s → act T s := fun s hs => by
    cases s with
    | nd j => obtain ⟨y, hy⟩ := hs; exact ⟨y, (hg j y hy).2⟩
    | ab j => obtain ⟨y, hy⟩ := hs; exact ⟨y, (hg j y hy).2⟩
    | kb j => obtain ⟨y, hy⟩ := hs; exact ⟨y, (hg j y hy).2⟩
    | t => trivial
    | nb => trivial
    | mk => trivial
  refine ⟨o, _, h1, h2, rfl, fun o' ho' => hK _ ?_⟩
  rw [mdel_rawN] at ho'
  refine h.upd .nb trivial o' rfl hact (by rw [PT.del, keys_del]; exact h.nod.erase _) (fun idsV o _ => ho') fun s hs ha idsV o hh => ?_
  cases s with
  | t => exact hh
  | mk => trivial
  | nb => exact absurd rfl hs
  | nd j => exact fun y hy => hh y (hg j y hy).2
  | ab j => exact fun y hy => hh y (hg j y hy).2
  | kb j => exact fun y hy => hh y (hg j y hy).2
end
end Go.Proofs.YtmjiojflncffeaaGreat.Vc

/- The code of some functions of the program, its types resolved: printed by a program of this claim. -/
set_option linter.unusedVariables false
set_option maxRecDepth 100000
namespace Go.Proofs.YtmjiojflncffeaaGreat.Vc
open Go Go.Proofs

abbrev f_tree_Tree_Do : Nat := 27
def c_tree_Tree_Do_R14 : Cd :=
 (.seq (.gh (.rga (.op ⟨none, [(some 97, .mv (.t 0))]⟩ (.op ⟨none, [(some 98, .mv (.t 0))]⟩ (.op ⟨none, [(some 99, .nilc (.t 98))]⟩ (.op ⟨none, [(some 100, .fldA (.t 99) 3 3)]⟩ (.op ⟨none, [(some 102, .fldA (.t 6) 1 1)]⟩ (.or (.op ⟨none, [(some 101, .ld (.t 100) 1 false)]⟩ (.op ⟨none, [(some 103, .ld (.t 102) 1 false)]⟩ (.op ⟨none, [(some 104, .bldS 3 1 (.s (.int .i64 0)) [(.t 103)])]⟩ (.op ⟨none, [(some 105, .app 3 1 8 (.s (.int .i64 0)) (.t 101) (.t 104))]⟩ (.op ⟨none, [(some 106, .nilc (.t 97))]⟩ (.op ⟨none, [(some 107, .fldA (.t 106) 3 3)]⟩ (.op ⟨none, [(none, .st (.t 107) (.t 105) 1)]⟩ .done))))))) (.op ⟨none, [(some 103, .ld (.t 102) 1 false)]⟩ (.or (.op ⟨none, [(some 101, .ld (.t 100) 1 false)]⟩ (.op ⟨none, [(some 104, .bldS 3 1 (.s (.int .i64 0)) [(.t 103)])]⟩ (.op ⟨none, [(some 105, .app 3 1 8 (.s (.int .i64 0)) (.t 101) (.t 104))]⟩ (.op ⟨none, [(some 106, .nilc (.t 97))]⟩ (.op ⟨none, [(some 107, .fldA (.t 106) 3 3)]⟩ (.op ⟨none, [(none, .st (.t 107) (.t 105) 1)]⟩ .done)))))) (.op ⟨none, [(some 104, .bldS 3 1 (.s (.int .i64 0)) [(.t 103)])]⟩ (.op ⟨none, [(some 101, .ld (.t 100) 1 false)]⟩ (.op ⟨none, [(some 105, .app 3 1 8 (.s (.int .i64 0)) (.t 101) (.t 104))]⟩ (.op ⟨none, [(some 106, .nilc (.t 97))]⟩ (.op ⟨none, [(some 107, .fldA (.t 106) 3 3)]⟩ (.op ⟨none, [(none, .st (.t 107) (.t 105) 1)]⟩ .done)))))))))))))) [4, 6]))
 (.seq (.rg [⟨none, [(some 108, .ld (.t 6) 13 true), (none, .st (.t 4) (.t 108) 13), (some 5, .mv (.c (.bool true)))]⟩] [4, 5])
 .ret))
def c_tree_Tree_Do : Cd :=
 (.seq (.rg [⟨none, [(some 3, .box 26 (.t 1)), (some 4, .new 71 (.c (.s (.pointer none)) (.c (.s (.int .i64 0)) (.c (.c (.c (.s (.int .i64 0)) (.c (.s (.int .i64 0)) .u)) (.c (.s (.int .i64 0)) (.c (.s (.int .i64 0)) (.c (.s (.int .i64 0)) (.c (.s (.string ⟨#[]⟩)) (.c (.s (.string ⟨#[]⟩)) (.c (.s (.string ⟨#[]⟩)) .u))))))) (.c (.c (.s (.int .i64 0)) (.c (.s (.string ⟨#[]⟩)) .u)) (.c (.s (.string ⟨#[]⟩)) .u)))))), (some 5, .mv (.c (.bool false)))]⟩] [0, 3, 4])
 (.seq (.seq (.rg [⟨none, [(some 7, .mv (.t 0)), (some 8, .ld (.t 3) 8 true), (some 9, .call 53 [(.t 7), (.t 8)]), (some 10, .un .not (.t 9))]⟩] [0, 3, 4, 10])
 (.ite (.t 10)
 (.seq (.rg [⟨none, [(some 11, .bld (.c (.s (.pointer none)) (.c (.s (.int .i64 0)) (.c (.c (.c (.s (.int .i64 0)) (.c (.s (.int .i64 0)) .u)) (.c (.s (.int .i64 0)) (.c (.s (.int .i64 0)) (.c (.s (.int .i64 0)) (.c (.s (.string ⟨#[]⟩)) (.c (.s (.string ⟨#[]⟩)) (.c (.s (.string ⟨#[]⟩)) .u))))))) (.c (.c (.s (.int .i64 0)) (.c (.s (.string ⟨#[]⟩)) .u)) (.c (.s (.string ⟨#[]⟩)) .u))))) []), (none, .st (.t 4) (.t 11) 13), (some 5, .mv (.c (.bool false)))]⟩] [4, 5])
 .ret)
 .skip))
 (.seq (.rg [⟨none, [(some 12, .mv (.t 0)), (some 13, .nilc (.t 12)), (some 14, .fldA (.t 13) 4 4), (some 15, .ld (.t 14) 1 false), (some 16, .bin .add (.t 15) (.c (.int .i64 1))), (some 17, .nilc (.t 12)), (some 18, .fldA (.t 17) 4 4), (none, .st (.t 18) (.t 16) 1)]⟩] [0, 3, 4])
 (.seq (.rga (.held [3] (.op ⟨none, [(some 19, .mv (.t 0))]⟩ (.op ⟨none, [(some 20, .nilc (.t 19))]⟩ (.op ⟨none, [(some 21, .fldA (.t 20) 1 1)]⟩ (.op ⟨none, [(some 23, .mv (.t 0))]⟩ (.op ⟨none, [(some 24, .nilc (.t 23))]⟩ (.op ⟨none, [(some 25, .fldA (.t 24) 4 4)]⟩ (.first ⟨none, [(some 22, .ld (.t 21) 1 false)]⟩ (.first ⟨none, [(some 26, .ld (.t 25) 1 false)]⟩ (.first ⟨none, [(some 27, .ld (.t 3) 8 true)]⟩ (.op ⟨none, [(some 28, .bld (.c (.s (.pointer none)) (.c (.s (.int .i64 0)) (.c (.c (.c (.s (.int .i64 0)) (.c (.s (.int .i64 0)) .u)) (.c (.s (.int .i64 0)) (.c (.s (.int .i64 0)) (.c (.s (.int .i64 0)) (.c (.s (.string ⟨#[]⟩)) (.c (.s (.string ⟨#[]⟩)) (.c (.s (.string ⟨#[]⟩)) .u))))))) (.c (.c (.s (.int .i64 0)) (.c (.s (.string ⟨#[]⟩)) .u)) (.c (.s (.string ⟨#[]⟩)) .u))))) [(0, (.t 22)), (1, (.t 26)), (2, (.t 27))])]⟩ (.op ⟨none, [(some 6, .new 71 (.c (.s (.pointer none)) (.c (.s (.int .i64 0)) (.c (.c (.c (.s (.int .i64 0)) (.c (.s (.int .i64 0)) .u)) (.c (.s (.int .i64 0)) (.c (.s (.int .i64 0)) (.c (.s (.int .i64 0)) (.c (.s (.string ⟨#[]⟩)) (.c (.s (.string ⟨#[]⟩)) (.c (.s (.string ⟨#[]⟩)) .u))))))) (.c (.c (.s (.int .i64 0)) (.c (.s (.string ⟨#[]⟩)) .u)) (.c (.s (.string ⟨#[]⟩)) .u))))))]⟩ (.op ⟨none, [(none, .st (.t 6) (.t 28) 13)]⟩ .done))))))))))))) [0, 3, 4, 6])
 (.seq (.seq (.rg [⟨none, [(some 29, .fldA (.t 3) 1 2), (some 30, .ld (.t 29) 1 false)]⟩] [0, 3, 4, 6, 30])
 (.block 0 (.seq (.rg [⟨none, [(some 58, .bin .eql (.t 30) (.c (.int .i64 1))), (some 57, .mv (.t 58))]⟩] [0, 3, 4, 6, 30, 57])
 (.ite (.t 57)
 (.seq (.rga (.op ⟨none, [(some 59, .mv (.t 0))]⟩ (.op ⟨none, [(some 60, .nilc (.t 59))]⟩ (.op ⟨none, [(some 61, .fldA (.t 60) 0 0)]⟩ (.op ⟨none, [(some 63, .fldA (.t 3) 2 3)]⟩ (.or (.op ⟨none, [(some 62, .ld (.t 61) 1 false)]⟩ (.or (.op ⟨none, [(some 64, .ld (.t 63) 1 false)]⟩ (.op ⟨none, [(some 65, .call 66 [])]⟩ (.op ⟨none, [(none, .mup (some .i64) (.t 62) (.t 64) (.t 65))]⟩ .done))) (.op ⟨none, [(some 65, .call 66 [])]⟩ (.op ⟨none, [(some 64, .ld (.t 63) 1 false)]⟩ (.op ⟨none, [(none, .mup (some .i64) (.t 62) (.t 64) (.t 65))]⟩ .done))))) (.or (.op ⟨none, [(some 64, .ld (.t 63) 1 false)]⟩ (.or (.op ⟨none, [(some 62, .ld (.t 61) 1 false)]⟩ (.op ⟨none, [(some 65, .call 66 [])]⟩ (.op ⟨none, [(none, .mup (some .i64) (.t 62) (.t 64) (.t 65))]⟩ .done))) (.op ⟨none, [(some 65, .call 66 [])]⟩ (.op ⟨none, [(some 62, .ld (.t 61) 1 false)]⟩ (.op ⟨none, [(none, .mup (some .i64) (.t 62) (.t 64) (.t 65))]⟩ .done))))) (.op ⟨none, [(some 65, .call 66 [])]⟩ (.or (.op ⟨none, [(some 62, .ld (.t 61) 1 false)]⟩ (.op ⟨none, [(some 64, .ld (.t 63) 1 false)]⟩ (.op ⟨none, [(none, .mup (some .i64) (.t 62) (.t 64) (.t 65))]⟩ .done))) (.op ⟨none, [(some 64, .ld (.t 63) 1 false)]⟩ (.op ⟨none, [(some 62, .ld (.t 61) 1 false)]⟩ (.op ⟨none, [(none, .mup (some .i64) (.t 62) (.t 64) (.t 65))]⟩ .done))))))))))) [0, 3, 4, 6])
 (.rg [⟨none, [(some 66, .mv (.t 0)), (some 67, .fldA (.t 3) 2 3), (some 68, .ld (.t 67) 1 false), (some 69, .fldA (.t 3) 3 4), (some 70, .ld (.t 69) 1 false), (some 71, .fldA (.t 3) 4 5), (some 72, .ld (.t 71) 1 false), (some 73, .bld (.c (.s (.int .i64 0)) (.c (.s (.string ⟨#[]⟩)) .u)) [(0, (.t 70)), (1, (.t 72))]), (some 74, .call 67 [(.t 66), (.t 68), (.t 73)])]⟩] [0, 4, 6]))
 (.seq (.rg [⟨none, [(some 76, .bin .eql (.t 30) (.c (.int .i64 2))), (some 75, .mv (.t 76))]⟩] [0, 3, 4, 6, 75])
 (.ite (.t 75)
 (.seq (.rgq [⟨none, [(some 77, .mv (.t 0)), (some 78, .nilc (.t 77)), (some 79, .fldA (.t 78) 0 0), (some 80, .ld (.t 79) 1 false), (some 81, .fldA (.t 3) 2 3), (some 82, .ld (.t 81) 1 false)]⟩] [⟨none, [(some 83, .mlk (some .i64) (.t 80) (.t 82) (.pointer none) false), (some 84, .nilc (.t 83)), (some 85, .fldA (.t 84) 0 0), (some 86, .ld (.t 85) 2 true), (some 87, .fldA (.t 6) 3 10), (none, .st (.t 87) (.t 86) 2)]⟩] [0, 3, 4, 6])
 (.rg [⟨none, [(some 88, .mv (.t 0)), (some 89, .fldA (.t 3) 2 3), (some 90, .ld (.t 89) 1 false), (some 91, .fldA (.t 3) 3 4), (some 92, .ld (.t 91) 1 false), (some 93, .fldA (.t 3) 4 5), (some 94, .ld (.t 93) 1 false), (some 95, .bld (.c (.s (.int .i64 0)) (.c (.s (.string ⟨#[]⟩)) .u)) [(0, (.t 92)), (1, (.t 94))]), (some 96, .call 67 [(.t 88), (.t 90), (.t 95)])]⟩] [0, 4, 6]))
 (.seq (.rgq [⟨none, [(some 31, .mv (.t 0)), (some 32, .nilc (.t 31)), (some 33, .fldA (.t 32) 0 0), (some 34, .ld (.t 33) 1 false), (some 35, .fldA (.t 3) 2 3), (some 36, .ld (.t 35) 1 false), (some 37, .mlk (some .i64) (.t 34) (.t 36) (.pointer none) false), (some 38, .nilc (.t 37)), (some 39, .fldA (.t 38) 1 2), (some 40, .ld (.t 39) 1 false), (some 41, .fldA (.t 3) 5 6), (some 42, .ld (.t 41) 1 false)]⟩] [⟨none, [(some 43, .mlk none (.t 40) (.t 42) (.string ⟨#[]⟩) false), (some 44, .fldA (.t 6) 4 12), (none, .st (.t 44) (.t 43) 1)]⟩] [0, 3, 4, 6])
 (.rgq [⟨none, [(some 45, .mv (.t 0)), (some 46, .nilc (.t 45)), (some 47, .fldA (.t 46) 0 0), (some 48, .ld (.t 47) 1 false), (some 49, .fldA (.t 3) 2 3), (some 50, .ld (.t 49) 1 false), (some 51, .mlk (some .i64) (.t 48) (.t 50) (.pointer none) false), (some 52, .fldA (.t 3) 5 6), (some 53, .ld (.t 52) 1 false), (some 54, .fldA (.t 3) 6 7), (some 55, .ld (.t 54) 1 false)]⟩] [⟨none, [(some 56, .call 68 [(.t 51), (.t 53), (.t 55)])]⟩] [0, 4, 6]))))))))
 c_tree_Tree_Do_R14)))))
theorem k_tree_Tree_Do : Ok Tryz.prog 27 c_tree_Tree_Do 109 [(4, 999998), (9, 999999), (12, 6), (6, 12), (7, 11), (14, 999999)] [.cell 4 13 true, .tmp 5] := Ok.mk' Tryz.func27 (by kernel_rfl) (by kernel_rfl) (by kernel_rfl)

abbrev f_tree_node_attr : Nat := 68
def c_tree_node_attr : Cd :=
 (.seq (.rg [⟨none, [(some 6, .mv (.t 2)), (some 7, .bin .eql (.t 6) (.c (.string ⟨#[]⟩)))]⟩] [0, 1, 2, 7])
 (.ite (.t 7)
 (.rg [⟨none, [(some 8, .mv (.t 0)), (some 9, .nilc (.t 8)), (some 10, .fldA (.t 9) 1 2), (some 11, .ld (.t 10) 1 false), (some 12, .mv (.t 1)), (none, .mdl none (.t 11) (.t 12))]⟩] [])
 (.rg [⟨none, [(some 13, .mv (.t 0)), (some 14, .nilc (.t 13)), (some 15, .fldA (.t 14) 1 2), (some 16, .ld (.t 15) 1 false), (some 17, .mv (.t 1)), (some 18, .mv (.t 2)), (none, .mup none (.t 16) (.t 17) (.t 18))]⟩] [])))
theorem k_tree_node_attr : Ok Tryz.prog 68 c_tree_node_attr 19 [] [] := Ok.mk' Tryz.func68 (by kernel_rfl) (by kernel_rfl) (by kernel_rfl)

abbrev f_tree_Tree_Back : Nat := 44
def c_tree_Tree_Back : Cd :=
 (.seq (.rg [⟨none, [(some 3, .box 71 (.t 1)), (some 4, .mv (.c (.int .i64 0)))]⟩] [0, 3])
 (.seq (.seq (.rg [⟨none, [(some 6, .mv (.t 0)), (some 7, .call 56 [(.t 6)])]⟩] [0, 3, 7])
 (.ite (.t 7)
 (.seq (.rg [⟨none, [(some 4, .mv (.c (.int .i64 2)))]⟩] [4])
 .ret)
 .skip))
 (.seq (.seq (.rg [⟨none, [(some 8, .ld (.t 3) 13 true), (some 9, .bld (.c (.s (.pointer none)) (.c (.s (.int .i64 0)) (.c (.c (.c (.s (.int .i64 0)) (.c (.s (.int .i64 0)) .u)) (.c (.s (.int .i64 0)) (.c (.s (.int .i64 0)) (.c (.s (.int .i64 0)) (.c (.s (.string ⟨#[]⟩)) (.c (.s (.string ⟨#[]⟩)) (.c (.s (.string ⟨#[]⟩)) .u))))))) (.c (.c (.s (.int .i64 0)) (.c (.s (.string ⟨#[]⟩)) .u)) (.c (.s (.string ⟨#[]⟩)) .u))))) []), (some 10, .eqA false 71 (.t 8) (.t 9))]⟩] [0, 3, 10])
 (.ite (.t 10)
 (.seq (.rg [⟨none, [(some 4, .mv (.c (.int .i64 0)))]⟩] [4])
 .ret)
 .skip))
 (.seq (.rg [⟨none, [(some 11, .mv (.t 0)), (some 12, .nilc (.t 11)), (some 13, .fldA (.t 12) 3 3), (some 14, .ld (.t 13) 1 false), (some 15, .len (.t 14)), (some 16, .bin .sub (.t 15) (.c (.int .i64 1))), (some 5, .mv (.t 16))]⟩] [0, 3, 5])
 (.seq (.seq (.rgq [⟨none, [(some 17, .fldA (.t 3) 0 0), (some 18, .ld (.t 17) 1 false), (some 19, .mv (.t 0)), (some 20, .nilc (.t 19)), (some 21, .fldA (.t 20) 1 1), (some 22, .ld (.t 21) 1 false), (some 23, .eqA true 67 (.t 18) (.t 22)), (some 24, .mv (.t 23))]⟩, ⟨some (24, false), [(some 25, .mv (.t 5)), (some 26, .bin .lss (.t 25) (.c (.int .i64 0)))]⟩, ⟨none, [(some 27, .pick (.t 24) (.c (.bool true)) (.t 26)), (some 28, .mv (.t 27))]⟩, ⟨some (28, false), [(some 29, .mv (.t 0)), (some 30, .nilc (.t 29)), (some 31, .fldA (.t 30) 3 3), (some 32, .ld (.t 31) 1 false), (some 33, .mv (.t 5)), (some 34, .idxS (.t 32) (.t 33) 1), (some 35, .ld (.t 34) 1 false), (some 36, .fldA (.t 3) 1 1), (some 37, .ld (.t 36) 1 false)]⟩] [⟨some (28, false), [(some 38, .bin .neq (.t 35) (.t 37))]⟩, ⟨none, [(some 39, .pick (.t 28) (.c (.bool true)) (.t 38))]⟩] [0, 3, 5, 39])
 (.ite (.t 39)
 (.seq (.rg [⟨none, [(some 4, .mv (.c (.int .i64 120)))]⟩] [4])
 .ret)
 .skip))
 (.seq (.rg [⟨none, [(some 40, .mv (.t 0)), (some 41, .mv (.t 0)), (some 42, .nilc (.t 41)), (some 43, .fldA (.t 42) 3 3), (some 44, .ld (.t 43) 1 false), (some 45, .mv (.t 5)), (some 46, .sl 1 (.t 44) none (some (.t 45))), (some 47, .nilc (.t 40)), (some 48, .fldA (.t 47) 3 3), (none, .st (.t 48) (.t 46) 1)]⟩] [0, 3])
 (.seq (.seq (.rg [⟨none, [(some 49, .fldA (.t 3) 2 2), (some 50, .fldA (.t 49) 1 2), (some 51, .ld (.t 50) 1 false)]⟩] [0, 3, 51])
 (.block 0 (.seq (.rg [⟨none, [(some 67, .bin .eql (.t 51) (.c (.int .i64 1))), (some 66, .mv (.t 67))]⟩] [0, 3, 51, 66])
 (.ite (.t 66)
 (.seq (.rgq [⟨none, [(some 68, .mv (.t 0)), (some 69, .nilc (.t 68)), (some 70, .fldA (.t 69) 0 0), (some 71, .ld (.t 70) 1 false), (some 72, .fldA (.t 3) 2 2), (some 73, .fldA (.t 72) 3 4), (some 74, .ld (.t 73) 1 false), (some 75, .mlk (some .i64) (.t 71) (.t 74) (.pointer none) false), (some 76, .nilc (.t 75)), (some 77, .fldA (.t 76) 2 3), (some 78, .ld (.t 77) 1 false), (some 79, .fldA (.t 3) 2 2), (some 80, .fldA (.t 79) 2 3), (some 81, .ld (.t 80) 1 false)]⟩] [⟨none, [(none, .mdl (some .i64) (.t 78) (.t 81))]⟩] [0, 3])
 (.rgq [⟨none, [(some 82, .mv (.t 0)), (some 83, .nilc (.t 82)), (some 84, .fldA (.t 83) 0 0), (some 85, .ld (.t 84) 1 false), (some 86, .fldA (.t 3) 2 2), (some 87, .fldA (.t 86) 2 3), (some 88, .ld (.t 87) 1 false)]⟩] [⟨none, [(none, .mdl (some .i64) (.t 85) (.t 88))]⟩] []))
 (.seq (.rg [⟨none, [(some 90, .bin .eql (.t 51) (.c (.int .i64 2))), (some 89, .mv (.t 90))]⟩] [0, 3, 89])
 (.ite (.t 89)
 (.rg [⟨none, [(some 91, .mv (.t 0)), (some 92, .fldA (.t 3) 2 2), (some 93, .fldA (.t 92) 2 3), (some 94, .ld (.t 93) 1 false), (some 95, .fldA (.t 3) 3 10), (some 96, .ld (.t 95) 2 true), (some 97, .call 67 [(.t 91), (.t 94), (.t 96)])]⟩] [])
 (.rgq [⟨none, [(some 52, .mv (.t 0)), (some 53, .nilc (.t 52)), (some 54, .fldA (.t 53) 0 0), (some 55, .ld (.t 54) 1 false), (some 56, .fldA (.t 3) 2 2), (some 57, .fldA (.t 56) 2 3), (some 58, .ld (.t 57) 1 false), (some 59, .mlk (some .i64) (.t 55) (.t 58) (.pointer none) false), (some 60, .fldA (.t 3) 2 2), (some 61, .fldA (.t 60) 5 6), (some 62, .ld (.t 61) 1 false), (some 63, .fldA (.t 3) 4 12), (some 64, .ld (.t 63) 1 false)]⟩] [⟨none, [(some 65, .call 68 [(.t 59), (.t 62), (.t 64)])]⟩] [])))))))
 (.seq (.rg [⟨none, [(some 4, .mv (.c (.int .i64 0)))]⟩] [4])
 .ret))))))))
theorem k_tree_Tree_Back : Ok Tryz.prog 44 c_tree_Tree_Back 98 [(6, 21), (12, 14), (13, 7), (10, 13)] [.tmp 4] := Ok.mk' Tryz.func44 (by kernel_rfl) (by kernel_rfl) (by kernel_rfl)

end Go.Proofs.YtmjiojflncffeaaGreat.Vc

/- A tree's functions that write. -/
set_option linter.unusedVariables false
set_option linter.unusedSimpArgs false
set_option maxRecDepth 100000
namespace Go.Proofs.YtmjiojflncffeaaGreat.Vc
open Go Go.Proofs

def PT.put (T : PT) (n : Int) (p : Place) : PT := match T.get n with
  | .none => T
  | some x => ((T.unkid x.parent n).place n p.parent p.name).kid p.parent n

theorem vc_gh_of_ge {C : Ctx} {a : Cd} {Q : QT} {σ τ : SS} (h : Ge σ τ) (hv : vc C a Q τ) : vc C (.gh a) Q σ := fun act w hR => ⟨τ, h.rel hR, hv⟩
theorem get_unkid {T : PT} {k n j : Int} : (T.unkid k n).get j = if j = k then (T.get j).map (fun x => { x with kids := x.kids.erase n }) else T.get j := PT.get_mod _ _ _ _
theorem get_place {T : PT} {n j q : Int} {nm : ByteArray} : (T.place n q nm).get j = if j = n then (T.get j).map (fun x => { x with parent := q, name := nm }) else T.get j := PT.get_mod _ _ _ _
theorem get_kid {T : PT} {k n j : Int} : (T.kid k n).get j = if j = k then (T.get j).map (fun x => { x with kids := putK x.kids n }) else T.get j := PT.get_mod _ _ _ _
theorem has_mod {T : PT} {k j : Int} {f : PN → PN} : ((T.mod k f).get j).isSome = (T.get j).isSome := by
  rw [PT.get_mod]
  split <;> simp

theorem kn_m {C : Ctx} {ph : List PH} {m : PH} : KN C.u0 (m :: ph) m := KN.mem (by simp)

theorem put_spec (w : World) (m : PH) (L : Lay) (T : PT) (n : Int) (p : Place) (x : PN) (hx : T.get n = some x) (hT : TM m L T) :
    Spec Tryz.prog f_tree_Tree_put [ptr (L .t), .int .i64 n, (gPlace p).val] m w fun rs m' => rs = [] ∧ TM m' L (T.put n p) := by
  refine spec_of k_tree_Tree_put [.g (.s (ptr (L .t))), .g (.s (.int .i64 n)), .g (gPlace p)] (by simp) (by simp [AV.ok, GV.ok, Value.oneCell', ptr, gPlace_ok]) ?_
  rw [PT.put, hx]
  simp only
  have rest : ∀ (m1 : PH) (T1 : PT) (x1 : PN), TM m1 L T1 → T1.get n = some x1 → ∀ σ : SS, Ge σ ⟨[(0, .g (.s (.pointer (some ⟨L .t, 0, none⟩)))), (1, .g (.s (.int .i64 (n)))), (5, .ref 5 [])], [(5, .box (gPlace p))], [], m1⟩ →
      vc ⟨Tryz.prog, 53, w, m⟩ c_tree_Tree_put_R4 (finQ ⟨Tryz.prog, 53, w, m⟩ [] fun rs m' => rs = [] ∧ TM m' L ((T1.place n p.parent p.name).kid p.parent n)) σ := by
    intro m1 T1 x1 hT1 hx1 σ hσ
    unfold c_tree_Tree_put_R4
    rw [vc_seq]
    refine vc_gh_of_ge hσ ?_
    simp (maxSteps := 2000000) only [vc_rgq, qsegs_n, qops_cons, vcqOp, vcOp, isRd, ev, look, put_mk, ↓reduceIte, Nat.add_zero, Bool.true_and, true_and]
    refine ld_of _ (hT1.s_map kn_m) rfl ?_
    simp (maxSteps := 2000000) only [qops_cons, vcqOp, vcOp, isRd, ev, look, put_mk, Nat.reduceEqDiff, ↓reduceIte, reduceCtorEq, Bool.true_and, true_and]
    refine hT1.lk kn_m n ?_
    rw [hx1]
    simp (maxSteps := 2000000) only [segs_n, ops_cons, qsegs_nil, qops_nil, qops_cons, vcqOp, vcOp, isRd, ev, look, put_mk, Nat.reduceEqDiff, ↓reduceIte, reduceCtorEq, Nat.add_zero, Bool.true_and, true_and, getT_nil, gPlace_fits, nptr_some]
    refine hT1.place hx1 fun m2 hT2 => ?_
    simp (maxSteps := 2000000) only [vc_seq, vc_rgq, thenQ_n, kKeep_eq, segs_nil, ops_nil, qsegs_n, qops_cons, vcqOp, vcOp, isRd, ev, look, put_mk, put_mk0, keep_mk, keepL, Nat.reduceEqDiff, ↓reduceIte, reduceCtorEq, Nat.add_zero, Bool.true_and, true_and]
    refine ld_of _ (hT2.s_map kn_m) rfl ?_
    simp (maxSteps := 2000000) only [segs_n, ops_cons, qsegs_nil, qops_nil, qops_cons, vcqOp, vcOp, isRd, ev, look, put_mk, GV.getT, Nat.reduceEqDiff, ↓reduceIte, reduceCtorEq, List.nil_append, Bool.true_and, Bool.not_false, true_and, getT_nil, fits_s, gPlace_fld0, gPlace_get0]
    refine hT2.lk kn_m _ ?_
    simp (maxSteps := 2000000) only [vc_seq, vc_rg, thenQ_n, kKeep_eq, segs_nil, segs_n, ops_nil, ops_cons, vcOp, ev, look, put_mk, keep_mk, keepL, Value.oneCell', cond_true, Nat.reduceEqDiff, ↓reduceIte, reduceCtorEq]
    cases hq : (T1.place n p.parent p.name).get p.parent with
    | none =>
      simp (maxSteps := 2000000) only [nptr_none]
      refine eq_of eqNode0 ?_
      simp (maxSteps := 2000000) only [vc_skip, vc_ite, thenQ_n, kKeep_eq, finQ_n, segs_nil, ops_nil, ev, look, put_mk, keep_mk, keepL, Nat.reduceEqDiff, ↓reduceIte, Bool.not_true, ↓br_ft, Bool.bne_true]
      refine fin_m _ rfl (fun _ _ h => h) ⟨rfl, ?_⟩
      rw [PT.kid, mod_none hq]
      exact hT2
    | some y =>
      simp (maxSteps := 2000000) only [nptr_some]
      refine eq_of (eqNode _) ?_
      simp (maxSteps := 2000000) only [vc_rg, vc_ite, thenQ_n, kKeep_eq, segs_nil, segs_n, ops_nil, ops_cons, vcOp, ev, look, put_mk, keep_mk, keepL, Nat.reduceEqDiff, ↓reduceIte, Nat.zero_add, Bool.not_false, ↓br_tt, Bool.bne_true]
      refine ld_of _ (hT2.s_node kn_m hq).2.2.2.1 rfl ?_
      simp (maxSteps := 2000000) only [ops_cons, vcOp, ev, look, put_mk, Value.oneCell', cond_true, Nat.reduceEqDiff, ↓reduceIte]
      refine hT2.kid hq fun m3 hT3 => ?_
      simp (maxSteps := 2000000) only [kKeep_eq, finQ_n, segs_nil, ops_nil, put_mk0, keep_mk, keepL]
      exact fin_m _ rfl (fun _ _ h => h) ⟨rfl, hT3⟩
  simp (maxSteps := 2000000) only [c_tree_Tree_put, vc_seq, vc_rg, vc_rgq, thenQ_n, kKeep_eq, segs_nil, segs_n, ops_nil, ops_cons, qsegs_n, qops_cons, vcqOp, vcOp, isRd, ev, look, updL, put_mk, keep_mk, keepL, Nat.reduceEqDiff, Nat.reduceAdd, ↓reduceIte, reduceCtorEq, Nat.zero_add, Nat.add_zero, Bool.true_and, true_and, initF, initP, Int.reduceAdd, ptr]
  refine ld_of _ (hT.s_map kn_m) rfl ?_
  simp (maxSteps := 2000000) only [qops_cons, vcqOp, vcOp, isRd, ev, look, put_mk, ↓reduceIte, reduceCtorEq, Nat.add_zero, Bool.true_and, true_and]
  refine ld_of _ (hT.s_map kn_m) rfl ?_
  simp (maxSteps := 2000000) only [qops_cons, vcqOp, vcOp, isRd, ev, look, put_mk, Nat.reduceEqDiff, ↓reduceIte, reduceCtorEq, Bool.true_and, true_and]
  refine hT.lk kn_m n ?_
  rw [hx]
  simp (maxSteps := 2000000) only [qops_cons, vcqOp, vcOp, isRd, ev, look, put_mk, ↓reduceIte, Nat.add_zero, Bool.true_and, true_and, nptr_some]
  refine ld_of _ (hT.s_node kn_m hx).1 rfl ?_
  simp (maxSteps := 2000000) only [segs_n, ops_cons, qsegs_nil, qops_nil, vcOp, ev, look, put_mk, Nat.reduceEqDiff, ↓reduceIte]
  refine hT.lk kn_m _ ?_
  simp (maxSteps := 2000000) only [vc_seq, vc_rg, thenQ_n, kKeep_eq, segs_nil, segs_n, ops_nil, ops_cons, vcOp, ev, look, put_mk, keep_mk, keepL, Value.oneCell', cond_true, Nat.reduceEqDiff, ↓reduceIte, reduceCtorEq]
  cases hq : T.get x.parent with
  | none =>
    simp (maxSteps := 2000000) only [nptr_none]
    refine eq_of eqNode0 ?_
    simp (maxSteps := 2000000) only [vc_skip, vc_ite, thenQ_n, kKeep_eq, segs_nil, ops_nil, ev, look, put_mk, keep_mk, keepL, Nat.reduceEqDiff, ↓reduceIte, reduceCtorEq, Bool.not_true, ↓br_ft, Bool.bne_true]
    rw [show T.unkid x.parent n = T from mod_none hq]
    refine rest m T x hT hx _ (ge_of ?_ ?_ rfl rfl rfl)
    · simp [frIn, look]
    · simp [pvIn, look]
  | some y =>
    simp (maxSteps := 2000000) only [nptr_some]
    refine eq_of (eqNode _) ?_
    simp (maxSteps := 2000000) only [vc_rg, vc_ite, thenQ_n, kKeep_eq, segs_nil, segs_n, ops_nil, ops_cons, vcOp, ev, look, put_mk, keep_mk, keepL, Nat.reduceEqDiff, ↓reduceIte, reduceCtorEq, Nat.zero_add, Bool.not_false, ↓br_tt, Bool.bne_true]
    refine ld_of _ (hT.s_node kn_m hq).2.2.2.1 rfl ?_
    simp (maxSteps := 2000000) only [ops_cons, vcOp, ev, look, put_mk, Nat.reduceEqDiff, ↓reduceIte, reduceCtorEq]
    refine hT.unkid hq fun m2 hT2 => ?_
    simp (maxSteps := 2000000) only [thenQ_n, kKeep_eq, segs_nil, ops_nil, look, put_mk0, keep_mk, keepL, Nat.reduceEqDiff, ↓reduceIte, reduceCtorEq]
    obtain ⟨x1, hx1⟩ : ∃ x1, (T.unkid x.parent n).get n = some x1 := by rw [get_unkid, hx]; split <;> exact ⟨_, rfl⟩
    refine rest m2 _ x1 hT2 hx1 _ (ge_of ?_ ?_ rfl rfl rfl)
    · simp [frIn, look]
    · simp [pvIn, look]

/-- An attribute. -/
theorem attr_spec (w : World) (m : PH) (L : Lay) (T : PT) (n : Int) (key value : ByteArray) (x : PN) (hx : T.get n = some x) (hT : TM m L T) :
    Spec Tryz.prog f_tree_node_attr [ptr (L (.nd n)), .string key, .string value] m w fun rs m' => rs = [] ∧ TM m' L (T.attr n key value) := by
  refine spec_of k_tree_node_attr [.g (.s (ptr (L (.nd n)))), .g (.s (.string key)), .g (.s (.string value))] (by simp) (by simp [AV.ok, GV.ok, Value.oneCell', ptr]) ?_
  simp (maxSteps := 2000000) only [c_tree_node_attr, vc_seq, vc_rg, vc_ite, thenQ_n, kKeep_eq, segs_nil, segs_n, ops_nil, ops_cons, vcOp, ev, look, put_mk, keep_mk, keepL, binV, binC, Value.oneCell', cond_true, Nat.reduceEqDiff, Nat.reduceAdd, ↓reduceIte, reduceCtorEq, Nat.zero_add, Bool.true_and, true_and, initF, initP, Int.reduceAdd, decide_eq_true_eq, decide_eq_false_iff_not, br_t, ptr]
  refine ⟨fun hv => ?_, fun hv => ?_⟩
  · subst hv
    refine ld_of _ (hT.s_node kn_m hx).2.2.1 rfl ?_
    simp (maxSteps := 2000000) only [ops_cons, vcOp, ev, look, put_mk, Nat.reduceEqDiff, ↓reduceIte, reduceCtorEq, decide_true]
    refine hT.attrDel hx fun m2 hT2 => ?_
    simp (maxSteps := 2000000) only [kKeep_eq, finQ_n, segs_nil, ops_nil, put_mk0, keep_mk, keepL]
    exact fin_m _ rfl (fun _ _ h => h) ⟨rfl, hT2⟩
  · refine ld_of _ (hT.s_node kn_m hx).2.2.1 rfl ?_
    simp (maxSteps := 2000000) only [ops_cons, vcOp, ev, look, put_mk, Nat.reduceEqDiff, ↓reduceIte, reduceCtorEq]
    refine hT.attrPut hv hx fun m2 hT2 => ?_
    simp (maxSteps := 2000000) only [kKeep_eq, finQ_n, segs_nil, ops_nil, put_mk0, keep_mk, keepL]
    exact fin_m _ rfl (fun _ _ h => h) ⟨rfl, hT2⟩
end Go.Proofs.YtmjiojflncffeaaGreat.Vc

/- What a tree does. -/
set_option linter.unusedVariables false
set_option linter.unusedSimpArgs false
set_option maxRecDepth 100000
namespace Go.Proofs.YtmjiojflncffeaaGreat.Vc
open Go Go.Proofs

theorem TreeM.setLast {e : TypeId} {σ : SS} {L : Lay} {T : PT} {d : Option Nat} {K : KT} {n : Int} (h : TreeM e σ.m L T) (hK : ∀ m', TreeM e m' L { T with last := n } → K ({ σ with m := m' }.put d .no)) : stK σ (L .t) 4 1 (.s (.int .i64 n)) d K := by
  obtain ⟨mi, mt, idsV, hm, hd, hi, ht⟩ := h
  obtain ⟨o, h1, e', rfl⟩ := ht.has .t trivial trivial
  obtain ⟨h2, h3⟩ := uni_r hd h1
  refine st_of rfl _ e' ⟨by rw [hm]; exact h2, by simp⟩ (hK _ ?_)
  rw [hm, uni_upd h3]
  refine ⟨mi, _, idsV, rfl, dis_upd hd h3, hi, ⟨fun s _ hs => ?_, fun a b _ _ ha hb => ht.sep a b trivial trivial ha hb, ht.nod⟩⟩
  by_cases hst : s = .t
  · subst hst
    exact ⟨_, upd_self _ _ _, e', rfl⟩
  · obtain ⟨o2, g1, g2⟩ := ht.has s trivial hs
    refine ⟨o2, by rw [upd_ne (fun q => hst (ht.sep s .t trivial trivial hs trivial q))]; exact g1, ?_⟩
    cases s with
    | t => exact absurd rfl hst
    | nb => exact g2
    | mk => trivial
    | nd k => exact g2
    | ab k => exact g2
    | kb k => exact g2

theorem kn_uni {u0 : PH} {L : List PH} {a b : PH} (h : dis a b) : KN u0 (uni a b :: L) b := fun j o hj => .inr ⟨_, by simp, sub_uni_r h j o hj⟩

/-- Another list of what was done. -/
theorem TreeM.setIds {e : TypeId} {σ : SS} {L : Lay} {T : PT} {d : Option Nat} {K : KT} {mt ui : PH} {idsV v : Value} {ids : List Int} (hm : σ.m = uni ui mt) (hd : dis ui mt) (ht : TreeT (fun _ => True) mt L T idsV) (hv : SlO ui v e 1 (ids.map gi))
    (hK : ∀ m', TreeM e m' L { T with ids := ids } → K ({ σ with m := m' }.put d .no)) : stK σ (L .t) 3 1 (.s v) d K := by
  obtain ⟨o, h1, e', rfl⟩ := ht.has .t trivial trivial
  obtain ⟨h2, h3⟩ := uni_r hd h1
  refine st_of rfl _ e' ⟨by rw [hm]; exact h2, by simp⟩ (hK _ ?_)
  rw [hm, uni_upd h3]
  refine ⟨ui, _, v, rfl, dis_upd hd h3, hv, ⟨fun s _ hs => ?_, fun a b _ _ ha hb => ht.sep a b trivial trivial ha hb, ht.nod⟩⟩
  by_cases hst : s = .t
  · subst hst
    exact ⟨_, upd_self _ _ _, e', rfl⟩
  · obtain ⟨o2, g1, g2⟩ := ht.has s trivial hs
    refine ⟨o2, by rw [upd_ne (fun q => hst (ht.sep s .t trivial trivial hs trivial q))]; exact g1, ?_⟩
    cases s with
    | t => exact absurd rfl hst
    | nb => exact g2
    | mk => trivial
    | nd k => exact g2
    | ab k => exact g2
    | kb k => exact g2

theorem TreeM.mupAdd {e : TypeId} {σ : SS} {L : Lay} {T : PT} {d : Option Nat} {K : KT} {n : Int} {m mb : PH} {b a k : Nat} (h : TreeM e m L T) (hb : BareM mb b a k) (hd : dis mb m) (hn : T.get n = none) (hm : σ.m = uni mb m)
    (hK : ∀ m', TreeM e m' (L.add n b a k) (T.add n) → K ({ σ with m := m' }.put d .no)) : mupK (some .i64) (L .nb) (.int .i64 n) (.pointer (some ⟨b, 0, none⟩)) d K σ := by
  obtain ⟨o, idsV, h1, h2⟩ := h.at .nb trivial
  refine ⟨o, _, by rw [hm]; exact (uni_r hd h1).1, h2, rfl, fun o' ho' => ?_⟩
  rw [hm]
  exact hK _ (h.add hb hd hn ho')

theorem put_ids (T : PT) (n : Int) (p : Place) : (T.put n p).ids = T.ids := by
  unfold PT.put
  cases T.get n <;> rfl
/-- A call that has all of one's memory. -/
theorem call_all {C : Ctx} {σ : SS} {f : Nat} {args : List Opd} {d : Option Nat} {K : KT} {svs : List SV} {Q : List GV → PH → Prop} (hd : dOk d C.N = true) (ha : evL σ args = some svs)
    (hs : ∀ w vs, ArgsV C σ w svs vs → C.u0.le w → (∀ u ∈ σ.ph, u.le w) → Spec C.P f vs σ.m w Q) (hK : ∀ rs m', (∀ r ∈ rs, r.ok) → Q rs m' → K ({ σ with m := m' }.put d (retS rs))) : vcCall C f args d K σ :=
  call_with σ.m PH.no (dOk_spec hd) ha (uni_no_r _).symm (dis_no_r _) hs fun rs m' h1 h2 _ => by rw [uni_no_r]; exact hK rs m' h1 h2

theorem TreeM.lkA {C : Ctx} {e : TypeId} {u : PH} {σ : SS} {L : Lay} {T : PT} {d : Option Nat} {K : KT} {k : Int} {x : PN} {key : ByteArray} (h : TreeM e u L T) (hk : KN C.u0 (σ.m :: σ.ph) u) (hx : T.get k = some x)
    (hK : K (σ.put d (.g (.s (.string ((getS x.attrs key).getD ⟨#[]⟩)))))) : mlkK C none (L (.ab k)) (.string key) (.string ⟨#[]⟩) false d K σ := by
  obtain ⟨o, h1, h2⟩ := h.s_attrs hk hx
  refine ⟨o, _, h1, h2, trivial, ?_⟩
  unfold lkS
  rw [mget_rawA]
  cases hg : getS x.attrs key with
  | none => rw [hg] at hK; exact hK
  | some y => rw [hg] at hK; exact hK

/-- What an operation makes of a tree, ahead of its number's keeping; what tells how it is taken back. -/
def PT.acts (T : PT) (op : Op) : PT :=
  if op.kind = 1 then (T.add op.node).put op.node ⟨op.parent, op.name⟩
  else if op.kind = 2 then T.put op.node ⟨op.parent, op.name⟩
  else T.attr op.node op.key op.value
def PT.undo (T : PT) (mk : Value) (op : Op) : Undo :=
  match T.get op.node with
  | .none => ⟨mk, T.last + 1, op, zPlace, ⟨#[]⟩⟩
  | some x => if op.kind = 1 then ⟨mk, T.last + 1, op, zPlace, ⟨#[]⟩⟩ else if op.kind = 2 then ⟨mk, T.last + 1, op, ⟨x.parent, x.name⟩, ⟨#[]⟩⟩ else ⟨mk, T.last + 1, op, zPlace, (getS x.attrs op.key).getD ⟨#[]⟩⟩
def PT.does (T : PT) (op : Op) : PT := { ({ T with last := T.last + 1 } : PT).acts op with ids := T.ids ++ [T.last + 1] }
def PT.fits (T : PT) : Prop := T.nodes.length < 4611686018427387904 ∧ 0 ≤ T.last ∧ T.last < 4611686018427387904 ∧ T.ids.length < 1099511627776

theorem Do_spec (w : World) (m : PH) (L : Lay) (T : PT) (op : Op) (hb : op.name.size ≤ 140737488355328) (hf : T.fits) (hT : TM m L T) :
    Spec Tryz.prog f_tree_Tree_Do [ptr (L .t), (gOp op).val] m w fun rs m' =>
      (mayA T op = false → rs = [gUndo zUndo, .s (.bool false)] ∧ TM m' L T) ∧
      (mayA T op = true → ∃ L', L' .t = L .t ∧ L' .mk = L .mk ∧ rs = [gUndo (T.undo (ptr (L .mk)) op), .s (.bool true)] ∧ TM m' L' (T.does op)) := by
  refine spec_of k_tree_Tree_Do [.g (.s (ptr (L .t))), .g (gOp op)] (by simp) (by simp [AV.ok, GV.ok, Value.oneCell', ptr, gOp_ok]) ?_
  simp (maxSteps := 2000000) only [c_tree_Tree_Do, vc_seq, vc_rg, thenQ_n, kKeep_eq, segs_nil, segs_n, ops_nil, ops_cons, vcOp, ev, look, updL, put_mk, keep_mk, keepL, Value.oneCell', cond_true, Nat.reduceEqDiff, ↓reduceIte, reduceCtorEq, Nat.zero_add, Bool.true_and, true_and, initF, initP, getT_nil, gStamp_zero, gOp_fits, gOp_zero, gPlace_zero, gUndo_zero, ptr]
  obtain ⟨hf1, hf2, hf3, hf4⟩ := hf
  refine call_ism _ [.s (.bool (mayA T op))] rfl rfl (fun w' vs hv _ _ hm => ?_) ?_
  · obtain ⟨vs, rfl, _, hv⟩ := argsV_g hv
    obtain ⟨vs, rfl, _, hv⟩ := argsV_g hv
    obtain rfl := argsV_nil hv
    exact May_spec hm hT op (by omega) hb
  simp (maxSteps := 2000000) only [retS, vc_skip, vc_ret, vc_seq, vc_rg, vc_ite, thenQ_n, thenQ_r, kKeep_eq, finQ_r, segs_nil, segs_n, ops_nil, ops_cons, vcOp, ev, evL, gvL, look, updL, put_mk, put_mk0, keep_mk, keepL, unV, Value.oneCell', cond_true, Nat.reduceEqDiff, ↓reduceIte, reduceCtorEq, Nat.zero_add, Bool.and_true, Bool.true_and, true_and, and_true, List.map_nil, br_t, GV.bldT, GV.bldC, getT_nil, setT_nil, gUndo_sz, gUndo_same]
  cases hmay : mayA T op with
  | false =>
    simp (maxSteps := 2000000) only [Bool.and_true, Bool.not_false, and_true, true_imp_iff, false_imp_iff, Bool.true_eq_false, Bool.false_eq_true]
    exact fin_m m rfl (fun _ _ h => h) ⟨rfl, hT⟩
  | true =>
    simp (maxSteps := 2000000) only [Bool.true_and, Bool.not_true, true_and, true_imp_iff, false_imp_iff, Bool.true_eq_false, Bool.false_eq_true]
    have tail : ∀ (m2 : PH) (L' : Lay) (T2 : PT) (U : Undo), L' .t = L .t → L' .mk = L .mk → TM m2 L' T2 → T2.ids = T.ids → U.ix = T.last + 1 → U.of.oneCell' = true → T.undo (ptr (L .mk)) op = U → ({ T2 with ids := T.ids ++ [T.last + 1] } : PT) = T.does op →
        ∀ σ : SS, Ge σ ⟨[(0, .g (.s (.pointer (some ⟨L' .t, 0, none⟩)))), (4, .ref 4 []), (6, .ref 6 [])], [(4, .box (gUndo zUndo)), (6, .box (gUndo U))], [], m2⟩ →
        vc ⟨Tryz.prog, 109, w, m⟩ c_tree_Tree_Do_R14 (finQ ⟨Tryz.prog, 109, w, m⟩ [.cell 4 13 true, .tmp 5] fun rs m' => ∃ L', L' .t = L .t ∧ L' .mk = L .mk ∧ rs = [gUndo (T.undo (.pointer (some ⟨L .mk, 0, none⟩)) op), .s (.bool true)] ∧ TM m' L' (T.does op)) σ := by
      intro m2 L' T2 U hL1 hL2 hT2 hids hix hof hU hdoes σ hσ
      obtain ⟨mi, mt, idsV, hm2, hd, hi, ht⟩ := hT2
      have hidsS : Seen ⟨Tryz.prog, 109, w, m⟩ [] m2 (L' .t) 3 (.s idsV) := by
        obtain ⟨o, h1, e', rfl⟩ := ht.has .t trivial trivial
        refine seen_cell (u := m2) kn_m (by rw [hm2]; exact (uni_r hd h1).1) rfl ?_
        rcases hi.2 with ⟨rfl, _⟩ | ⟨ad, c, rfl, _⟩ <;> rfl
      unfold c_tree_Tree_Do_R14
      rw [vc_seq]
      refine vc_gh_of_ge hσ ?_
      simp (maxSteps := 2000000) only [vc_rga, segs_nil, segs_n, ops_nil, ops_cons, ot_op, ot_or, vcOp, ev, evL, gvL, look, updL, put_mk, GV.getT, GV.sz, Nat.reduceEqDiff, ↓reduceIte, reduceCtorEq, List.nil_append, Nat.zero_add, Bool.and_true, Bool.true_and, Bool.not_false, true_and, and_true, Option.map_some, szAll, List.length_cons, List.length_nil, getT_nil, fits_s, gUndo_fld1, gUndo_get1]
      refine ⟨ld_of _ hidsS rfl ?_, ld_of _ hidsS rfl ?_, ld_of _ hidsS rfl ?_⟩
      all_goals
        simp (maxSteps := 2000000) only [segs_nil, segs_n, ops_nil, ops_cons, ot_op, vcOp, ev, evL, gvL, look, updL, put_mk, rowE, GV.getT, GV.sz, Nat.reduceEqDiff, ↓reduceIte, Nat.zero_add, Bool.and_true, Bool.true_and, Bool.not_false, true_and, and_true, Option.map_some, szAll, List.length_cons, List.length_nil, List.drop_zero, List.take_succ_cons, List.take_zero, fits_s, gUndo_get1]
        refine app_of rfl rfl mi mt (T2.ids.map gi) hi hm2 hd (by simp only [List.length_map, hids, List.length_cons, List.length_nil]; omega) fun v' u' hv' hs' hd' => ?_
        simp (maxSteps := 2000000) only [segs_nil, segs_n, ops_nil, ops_cons, ot_op, vcOp, ev, look, put_mk, Nat.reduceEqDiff, ↓reduceIte, Nat.zero_add]
        refine TreeM.setIds (ids := T.ids ++ [T.last + 1]) rfl hd' ht (by rw [← hids, ← hix, List.map_append]; exact hs') fun m3 hT3 => ?_
        simp (maxSteps := 2000000) only [vc_ret, vc_seq, vc_rg, thenQ_n, kKeep_eq, finQ_r, segs_nil, segs_n, ops_nil, ops_cons, ot_done, vcOp, ev, look, updL, put_mk, put_mk0, keep_mk, keepL, Value.oneCell', cond_true, Nat.reduceEqDiff, ↓reduceIte, reduceCtorEq, Bool.and_true, Bool.true_and, true_and, and_true, getT_nil, setT_nil, gUndo_sz, gUndo_fits, gUndo_same]
        exact fin_m (rs := [gUndo U, .s (.bool true)]) _ rfl (fun _ _ h => h) ⟨L', hL1, hL2, by rw [← hU]; rfl, by rw [← hdoes]; exact hT3⟩
    refine ld_of _ (hT.s_last kn_m) rfl ?_
    simp (maxSteps := 2000000) only [ops_cons, vcOp, ev, look, put_mk, binV, binC, Value.oneCell', cond_true, Nat.reduceEqDiff, ↓reduceIte, Nat.zero_add, Bool.true_and, true_and]
    rw [wrap64 (by omega) (by omega)]
    refine hT.setLast fun m1 hT1 => ?_
    simp (maxSteps := 2000000) only [vc_seq, vc_block, vc_rg, vc_rgq, vc_rga, vc_ite, thenQ_n, kKeep_eq, segs_nil, segs_n, ops_nil, ops_cons, qsegs_n, qops_cons, ot_op, ot_or, ot_held, oh_done, oh_op, oh_first, heldC_eq, heldF_eq, heldOk, heldK, ldH, heldM_self, List.contains_cons, List.contains_nil, Bool.or_false, vcqOp, vcOp, isRd, ev, evL, gvL, look, updL, put_mk, put_mk0, keep_mk, keepL, binV, binC, GV.getT, Value.oneCell', cond_true, Nat.reduceEqDiff, ↓reduceIte, reduceCtorEq, List.nil_append, Nat.zero_add, Nat.add_zero, Bool.and_true, Bool.true_and, Bool.not_false, BEq.rfl, true_and, and_true, List.map_cons, List.map_nil, Option.map_some, br_t, GV.bldT, GV.bldC, getT_nil, setT_nil, fits_s, gOp_fits, gOp_fld1, gOp_get1, gOp_fld2, gOp_get2, gUndo_get0]
    refine ⟨_, hT1.s_mark kn_m, rfl, _, hT1.s_last kn_m, rfl, ?_⟩
    simp (maxSteps := 2000000) only [GV.getT, GV.same, Bool.and_true, Bool.true_and, true_and, and_true, same_int, getT_nil, gOp_same, gUndo_sz, gUndo_same, gUndo_set0, gUndo_get1, gUndo_set1, gUndo_get2, gUndo_set2, ptr]
    refine ⟨⟨rfl, rfl, rfl⟩, fun k1 => ?_, fun k1 => ⟨fun k2 => ?_, fun k2 => ?_⟩⟩
    · rw [beq_iff_eq] at k1
      have hnone : T.get op.node = none := by
        rw [mayA, if_pos k1] at hmay
        simp only [Bool.and_eq_true, Bool.not_eq_true', PT.has] at hmay
        exact Option.isNone_iff_eq_none.1 (by rw [← Option.not_isSome, hmay.1.1.2]; rfl)
      repeat' (first
        | (refine ld_of _ (hT1.s_map kn_m) rfl ?_; simp (maxSteps := 2000000) only [segs_nil, segs_n, ops_nil, ops_cons, ot_op, ot_or, vcOp, ev, look, put_mk, GV.getT, Nat.reduceEqDiff, ↓reduceIte, Bool.true_and, Bool.not_false, true_and, fits_s, gOp_get2])
        | (refine ld_of _ (hT1.s_map (kn_uni hdb)) rfl ?_; simp (maxSteps := 2000000) only [segs_nil, segs_n, ops_nil, ops_cons, ot_op, vcOp, ev, look, put_mk, GV.getT, Nat.reduceEqDiff, ↓reduceIte, Bool.true_and, Bool.not_false, true_and, fits_s, gOp_get2])
        | (refine call_ownm rfl rfl (Q := fun rs m' => ∃ b a k, rs = [.s (ptr b)] ∧ BareM m' b a k) (fun w' vs hv hw _ _ => by obtain rfl := argsV_nil hv; exact bare_spec w') fun rs mb _ hq hdb => ?_; obtain ⟨b, a, k, rfl, hbm⟩ := hq; simp (maxSteps := 2000000) only [retS, segs_nil, segs_n, ops_nil, ops_cons, ot_op, ot_or, vcOp, ev, look, put_mk, GV.getT, Nat.reduceEqDiff, ↓reduceIte, Bool.true_and, Bool.not_false, true_and, fits_s, gOp_get2, ptr])
        | refine And.intro ?_ ?_)
      all_goals
        refine hT1.mupAdd hbm hdb hnone rfl fun m3 hT3 => ?_
        simp (maxSteps := 2000000) only [vc_rg, thenQ_n, kKeep_eq, segs_nil, segs_n, ops_nil, ops_cons, ot_done, vcOp, ev, evL, gvL, look, put_mk, put_mk0, keep_mk, keepL, GV.getT, GV.same, Nat.reduceEqDiff, ↓reduceIte, reduceCtorEq, List.nil_append, Bool.and_true, Bool.true_and, Bool.not_false, true_and, and_true, List.map_cons, List.map_nil, Option.map_some, GV.bldT, GV.bldC, same_int, getT_nil, fits_s, gOp_fld2, gOp_get2, gOp_fld3, gOp_get3, gOp_fld4, gOp_get4, gPlace_get0, gPlace_set0, gPlace_get1, gPlace_set1]
        refine ⟨⟨rfl, rfl⟩, ?_⟩
        refine call_all (Q := fun rs m' => rs = [] ∧ TM m' (L.add op.node b a k) ((({ T with last := T.last + 1 } : PT).add op.node).put op.node ⟨op.parent, op.name⟩)) rfl rfl (fun w' vs hv hw _ => ?_) fun rs m4 _ hq => ?_
        · obtain ⟨vs, rfl, _, hv⟩ := argsV_g hv
          obtain ⟨vs, rfl, _, hv⟩ := argsV_g hv
          obtain ⟨vs, rfl, _, hv⟩ := argsV_g hv
          obtain rfl := argsV_nil hv
          exact put_spec w' m3 (L.add op.node b a k) _ op.node ⟨op.parent, op.name⟩ PN.bare (by rw [PT.get_add (T := { T with last := T.last + 1 }) hnone, if_pos rfl]) hT3
        obtain ⟨rfl, hT4⟩ := hq
        simp (maxSteps := 2000000) only [retS, thenQ_n, blockQ_n, kKeep_eq, segs_nil, ops_nil, look, put_mk, keep_mk, keepL, Nat.reduceEqDiff, ↓reduceIte, reduceCtorEq]
        refine tail m4 (L.add op.node b a k) _ ⟨ptr (L .mk), T.last + 1, op, zPlace, ⟨#[]⟩⟩ rfl rfl hT4 ?_ rfl rfl ?_ ?_ _ (ge_of ?_ ?_ rfl rfl rfl)
        · rw [put_ids]; rfl
        · rw [PT.undo, hnone]
        · rw [PT.does, PT.acts, if_pos k1]
        · simp [frIn, look, Lay.add]
        · simp [pvIn, look]; rfl
    · rw [beq_eq_false_iff_ne] at k1
      rw [beq_iff_eq] at k2
      obtain ⟨x, hx⟩ : ∃ x, T.get op.node = some x := by
        rw [mayA, if_neg k1, if_pos k2] at hmay
        simp only [Bool.and_eq_true, PT.has] at hmay
        exact Option.isSome_iff_exists.1 hmay.1.1.1.1
      refine ld_of _ (hT1.s_map kn_m) rfl ?_
      simp (maxSteps := 2000000) only [segs_n, ops_cons, qsegs_nil, qops_nil, qops_cons, vcqOp, vcOp, isRd, ev, look, put_mk, GV.getT, Nat.reduceEqDiff, ↓reduceIte, reduceCtorEq, List.nil_append, Bool.true_and, Bool.not_false, true_and, getT_nil, fits_s, gOp_fld2, gOp_get2]
      refine hT1.lk kn_m _ ?_
      rw [show ({ T with last := T.last + 1 } : PT).get op.node = some x from hx]
      simp (maxSteps := 2000000) only [ops_cons, vcOp, ev, look, put_mk, ↓reduceIte, Nat.add_zero, nptr_some]
      refine ld_of _ (hT1.s_node kn_m hx).2.2.2.2 (gPlace_fits _) ?_
      simp (maxSteps := 2000000) only [vc_rg, thenQ_n, kKeep_eq, segs_nil, segs_n, ops_nil, ops_cons, vcOp, ev, evL, gvL, look, updL, put_mk, put_mk0, keep_mk, keepL, GV.getT, GV.same, Nat.reduceEqDiff, ↓reduceIte, reduceCtorEq, List.nil_append, Bool.and_true, Bool.true_and, Bool.not_false, true_and, and_true, List.map_cons, List.map_nil, Option.map_some, GV.bldT, GV.bldC, same_int, getT_nil, fits_s, gOp_fld2, gOp_get2, gOp_fld3, gOp_get3, gOp_fld4, gOp_get4, gPlace_sz, gPlace_same, gPlace_get0, gPlace_set0, gPlace_get1, gPlace_set1, gUndo_fld3, gUndo_get3, gUndo_set3]
      refine ⟨⟨rfl, rfl⟩, ?_⟩
      refine call_all (Q := fun rs m' => rs = [] ∧ TM m' L (({ T with last := T.last + 1 } : PT).put op.node ⟨op.parent, op.name⟩)) rfl rfl (fun w' vs hv hw _ => ?_) fun rs m4 _ hq => ?_
      · obtain ⟨vs, rfl, _, hv⟩ := argsV_g hv
        obtain ⟨vs, rfl, _, hv⟩ := argsV_g hv
        obtain ⟨vs, rfl, _, hv⟩ := argsV_g hv
        obtain rfl := argsV_nil hv
        exact put_spec w' m1 L _ op.node ⟨op.parent, op.name⟩ x hx hT1
      obtain ⟨rfl, hT4⟩ := hq
      simp (maxSteps := 2000000) only [retS, thenQ_n, blockQ_n, kKeep_eq, segs_nil, ops_nil, look, put_mk, keep_mk, keepL, Nat.reduceEqDiff, ↓reduceIte, reduceCtorEq]
      refine tail m4 L _ ⟨ptr (L .mk), T.last + 1, op, ⟨x.parent, x.name⟩, ⟨#[]⟩⟩ rfl rfl hT4 ?_ rfl rfl ?_ ?_ _ (ge_of ?_ ?_ rfl rfl rfl)
      · rw [put_ids]
      · rw [PT.undo, hx]; simp only; rw [if_neg k1, if_pos k2]
      · rw [PT.does, PT.acts, if_neg k1, if_pos k2]
      · simp [frIn, look]
      · simp [pvIn, look]; rfl
    · rw [beq_eq_false_iff_ne] at k1 k2
      obtain ⟨x, hx⟩ : ∃ x, T.get op.node = some x := by
        rw [mayA, if_neg k1, if_neg k2] at hmay
        split at hmay
        · simp only [Bool.and_eq_true, PT.has] at hmay
          exact Option.isSome_iff_exists.1 hmay.1
        · cases hmay
      refine ld_of _ (hT1.s_map kn_m) rfl ?_
      simp (maxSteps := 2000000) only [qops_cons, vcqOp, vcOp, isRd, ev, look, put_mk, GV.getT, Nat.reduceEqDiff, ↓reduceIte, reduceCtorEq, List.nil_append, Bool.true_and, Bool.not_false, true_and, getT_nil, fits_s, gOp_fld2, gOp_get2]
      refine hT1.lk kn_m _ ?_
      rw [show ({ T with last := T.last + 1 } : PT).get op.node = some x from hx]
      simp (maxSteps := 2000000) only [qops_cons, vcqOp, vcOp, isRd, ev, look, put_mk, ↓reduceIte, Nat.zero_add, Bool.true_and, true_and, nptr_some]
      refine ld_of _ (hT1.s_node kn_m hx).2.2.1 rfl ?_
      simp (maxSteps := 2000000) only [segs_n, ops_cons, qsegs_nil, qops_nil, qops_cons, vcqOp, vcOp, isRd, ev, look, put_mk, GV.getT, Nat.reduceEqDiff, ↓reduceIte, reduceCtorEq, List.nil_append, Bool.true_and, Bool.not_false, true_and, getT_nil, fits_s, gOp_fld5, gOp_get5]
      refine hT1.lkA kn_m hx ?_
      simp (maxSteps := 2000000) only [vc_rgq, thenQ_n, kKeep_eq, segs_nil, ops_nil, ops_cons, qsegs_n, qops_cons, vcqOp, vcOp, isRd, ev, look, updL, put_mk, put_mk0, keep_mk, keepL, GV.getT, GV.sz, GV.same, Nat.reduceEqDiff, ↓reduceIte, reduceCtorEq, List.nil_append, Nat.add_zero, Bool.and_true, Bool.true_and, true_and, and_true, getT_nil, gUndo_fld4, gUndo_get4, gUndo_set4]
      refine ld_of _ (hT1.s_map kn_m) rfl ?_
      simp (maxSteps := 2000000) only [qops_cons, vcqOp, vcOp, isRd, ev, look, put_mk, GV.getT, Nat.reduceEqDiff, ↓reduceIte, reduceCtorEq, List.nil_append, Bool.true_and, Bool.not_false, true_and, getT_nil, fits_s, gOp_fld2, gOp_get2]
      refine hT1.lk kn_m _ ?_
      rw [show ({ T with last := T.last + 1 } : PT).get op.node = some x from hx]
      simp (maxSteps := 2000000) only [segs_n, ops_cons, qsegs_nil, qops_nil, qops_cons, vcqOp, vcOp, isRd, ev, look, put_mk, GV.getT, Nat.reduceEqDiff, ↓reduceIte, reduceCtorEq, List.nil_append, Bool.true_and, Bool.not_false, true_and, getT_nil, fits_s, gOp_fld5, gOp_get5, gOp_fld6, gOp_get6, nptr_some]
      refine call_all (Q := fun rs m' => rs = [] ∧ TM m' L (({ T with last := T.last + 1 } : PT).attr op.node op.key op.value)) rfl rfl (fun w' vs hv hw _ => ?_) fun rs m4 _ hq => ?_
      · obtain ⟨vs, rfl, _, hv⟩ := argsV_g hv
        obtain ⟨vs, rfl, _, hv⟩ := argsV_g hv
        obtain ⟨vs, rfl, _, hv⟩ := argsV_g hv
        obtain rfl := argsV_nil hv
        exact attr_spec w' m1 L _ op.node op.key op.value x hx hT1
      obtain ⟨rfl, hT4⟩ := hq
      simp (maxSteps := 2000000) only [retS, thenQ_n, blockQ_n, kKeep_eq, segs_nil, ops_nil, look, put_mk, keep_mk, keepL, Nat.reduceEqDiff, ↓reduceIte, reduceCtorEq]
      refine tail m4 L _ ⟨ptr (L .mk), T.last + 1, op, zPlace, (getS x.attrs op.key).getD ⟨#[]⟩⟩ rfl rfl hT4 rfl rfl rfl ?_ ?_ _ (ge_of ?_ ?_ rfl rfl rfl)
      · rw [PT.undo, hx]; simp only; rw [if_neg k1, if_neg k2]
      · rw [PT.does, PT.acts, if_neg k1, if_neg k2]
      · simp [frIn, look]
      · simp [pvIn, look]; rfl
end Go.Proofs.YtmjiojflncffeaaGreat.Vc

/- Taken back. -/
set_option linter.unusedVariables false
set_option linter.unusedSimpArgs false
set_option maxRecDepth 100000
namespace Go.Proofs.YtmjiojflncffeaaGreat.Vc
open Go Go.Proofs

/-- A struct whose first field is a pointer that is not nil is not one whose first field is nil. -/
theorem eqG_first {P : Program} {t : TypeId} {fs : Array Field} {f0 : Field} {rest : List Field} {tx ty : GV} {e : TypeId} {i : TypeInfo} {a : Addr} (hu : P.underlying t = some (.struct fs)) (hfs : fs.toList = f0 :: rest) (hn : f0.name ≠ "_") (ho : f0.offset = 0)
    (h0 : P.underlying f0.type = some (.pointer e)) (hi : P.info? f0.type = some i) (hsz : i.size = 1) (hst : P.stoodInHeld t = false) (hg : P.eqGuardType P.depth t = false) (okx : (GV.c (.s (.pointer (some a))) tx).ok) (oky : (GV.c (.s (.pointer none)) ty).ok) :
    EqG P t (.c (.s (.pointer (some a))) tx) (.c (.s (.pointer none)) ty) false := by
  have hfs' : P.fieldsOf t = fs := by simp [Program.fieldsOf, hu]
  have h : ∀ w, (Op.equalIn 10000 t (GV.c (.s (.pointer (some a))) tx).val (GV.c (.s (.pointer none)) ty).val).run P w = .ok false w := fun w => by
    show (Op.equalIn (9999 + 1) t _ _).run P w = _
    rw [val_agg (fun v => by simp) , val_agg (fun v => by simp), run_equalIn_struct w 9999 t _ _ (by rw [hfs']; exact hu) hst, hfs', hfs]
    have p1 := run_part (P := P) h0 hi (p := [0]) (y := .s (.pointer (some a))) okx rfl (by rw [hsz]; rfl) w
    have p2 := run_part (P := P) h0 hi (p := [0]) (y := .s (.pointer none)) oky rfl (by rw [hsz]; rfl) w
    have o1 : (GV.c (.s (.pointer (some a))) tx).offs [0] = 0 := rfl
    have o2 : (GV.c (.s (.pointer none)) ty).offs [0] = 0 := rfl
    rw [o1, ← ho] at p1; rw [o2, ← ho] at p2
    have p3 := run_eqIn_ptr (P := P) 9998 h0 a w
    simp only [Op.eqFields, hn, ne_eq, not_false_eq_true, if_true, Sem.run_bind, p1, p2, Result.andThen_ok, GV.val]
    rw [p3]
    rfl
  intro b c w
  have hw := h w
  rw [val_agg (fun v => by simp) , val_agg (fun v => by simp)] at hw ⊢
  constructor
  · rw [Sem.run_bind, run_eqGuard_agg w _ _ _ _ _ _ hg, Result.andThen_ok, run_eql_struct w, hw]; rfl
  · rw [Sem.run_bind, run_eqGuard_agg w _ _ _ _ _ _ hg, Result.andThen_ok, run_neq_struct w, hw]; rfl

theorem eqG_same {P : Program} {t e : TypeId} {i : TypeInfo} (ht : P.underlying t = some (.pointer e)) (hi : P.info? e = some i) (hz : i.size ≠ 0) (a : Addr) : EqG P t (.s (.pointer (some a))) (.s (.pointer (some a))) true := by
  have h1 : ∀ w, (sameAddr a a).run P w = .ok true w := fun w => by
    unfold sameAddr
    simp [Sem.run_bind]
  have h0 : ∀ d w, (Op.equalIn (d + 1) t (.pointer (some a)) (.pointer (some a))).run P w = .ok true w := fun d w => by
    unfold Op.equalIn
    simp only [Sem.run_bind, run_underlying' ht, Result.andThen_ok, run_sizeOf' hi, ne_eq, hz, not_false_eq_true, if_true, h1]
  have h : ∀ w, (Op.equal t (.pointer (some a)) (.pointer (some a))).run P w = .ok true w := fun w => h0 9999 w
  intro x y w
  exact ⟨by simp [eqGuard, binOp, Sem.run_bind, GV.val, h], by simp [eqGuard, binOp, Sem.run_bind, GV.val, h]⟩

def PT.undone (T : PT) (u : Undo) : PT :=
  let T1 : PT := { T with ids := T.ids.dropLast }
  if u.op.kind = 1 then (T1.unkid u.op.parent u.op.node).del u.op.node
  else if u.op.kind = 2 then T1.put u.op.node u.was
  else T1.attr u.op.node u.op.key u.attr

theorem SlO.take {u : PH} {ad : Option Addr} {n c z : Nat} {e : TypeId} {xs : List GV} (h : SlO u (.slice ad n c) e z xs) (hn : n = xs.length) {k : Nat} (hk : k ≤ n) {ad' : Option Addr} (ha : ad' = ad) : SlO u (.slice ad' k c) e z (xs.take k) := by
  subst ha
  obtain ⟨hels, ⟨h1, rfl⟩ | ⟨a, c', h1, h2, h3⟩⟩ := h
  · simp only [Value.slice.injEq] at h1
    obtain ⟨rfl, rfl, rfl⟩ := h1
    obtain rfl : k = 0 := by omega
    exact ⟨fun x hx => by simp at hx, .inl ⟨rfl, by simp⟩⟩
  · simp only [Value.slice.injEq] at h1
    obtain ⟨rfl, _, rfl⟩ := h1
    refine ⟨fun x hx => hels x (List.mem_of_mem_take hx), .inr ⟨a, c, by rw [List.length_take, Nat.min_eq_left (by omega)], by rw [List.length_take]; omega, fun hc => ?_⟩⟩
    obtain ⟨cs, g1, g2, g3, g4⟩ := h3 hc
    exact ⟨cs, g1, g2, g3, fun j v hj => g4 j v (flats_take hels k hj)⟩

theorem Back_spec (w : World) (m : PH) (L : Lay) (T : PT) (u : Undo) (hof : u.of = .pointer (some ⟨L .mk, 0, none⟩)) (hT : TM m L T) (hil : T.ids.length < 1099511627776)
    (hsafe : T.ids.getLast? = some u.ix → (u.op.kind = 1 → ∃ x, T.get u.op.parent = some x) ∧ (u.op.kind ≠ 1 → ∃ x, T.get u.op.node = some x)) :
    Spec Tryz.prog f_tree_Tree_Back [ptr (L .t), (gUndo u).val] m w fun rs m' =>
      (T.ids.getLast? = some u.ix → rs = [.s (.int .i64 0)] ∧ TM m' L (T.undone u)) ∧ (T.ids.getLast? ≠ some u.ix → rs = [.s (.int .i64 120)] ∧ TM m' L T) := by
  have hok : (gUndo u).ok := gUndo_ok u (by rw [hof]; rfl)
  refine spec_of k_tree_Tree_Back [.g (.s (ptr (L .t))), .g (gUndo u)] (by simp) (by simp [AV.ok, GV.ok, Value.oneCell', ptr, hok]) ?_
  simp (maxSteps := 2000000) only [c_tree_Tree_Back, vc_seq, vc_rg, thenQ_n, kKeep_eq, segs_nil, segs_n, ops_nil, ops_cons, vcOp, ev, look, updL, put_mk, keep_mk, keepL, Value.oneCell', cond_true, Nat.reduceEqDiff, ↓reduceIte, reduceCtorEq, Nat.zero_add, Bool.true_and, true_and, initF, initP, ne_eq, gStamp_zero, gOp_zero, gPlace_zero, gUndo_zero, ptr]
  refine call_ism _ [.s (.bool false)] rfl rfl (fun w' vs hv _ _ hm => ?_) ?_
  · obtain ⟨vs, rfl, _, hv⟩ := argsV_g hv
    obtain rfl := argsV_nil hv
    exact none_spec hm hT
  simp (maxSteps := 2000000) only [retS, vc_skip, vc_seq, vc_rg, vc_ite, thenQ_n, kKeep_eq, segs_nil, segs_n, ops_nil, ops_cons, vcOp, ev, evL, gvL, look, put_mk, keep_mk, keepL, Nat.reduceEqDiff, ↓reduceIte, reduceCtorEq, Bool.true_and, true_and, List.map_nil, ↓br_ft, GV.bldT, GV.bldC, getT_nil, gUndo_fits]
  have hne : EqG Tryz.prog 71 (gUndo u) (gUndo zUndo) false := by
    obtain ⟨of, ix, op, was, attr⟩ := u
    subst hof
    exact eqG_first (fs := Tryz.prog.fieldsOf 71) (f0 := (Tryz.prog.fieldsOf 71)[0]!) (rest := (Tryz.prog.fieldsOf 71).toList.tail) (i := (Tryz.prog.info? 67).get!) (e := 139) (by kernel_rfl) (by kernel_rfl) (by decide +kernel) (by kernel_rfl) (by kernel_rfl) (by kernel_rfl) (by kernel_rfl) (by kernel_rfl) (by kernel_rfl) hok (gUndo_ok zUndo rfl)
  refine eq_of hne ?_
  simp (maxSteps := 2000000) only [vc_skip, vc_seq, vc_rg, vc_ite, thenQ_n, kKeep_eq, segs_nil, segs_n, ops_nil, ops_cons, vcOp, ev, look, put_mk, keep_mk, keepL, Nat.reduceEqDiff, ↓reduceIte, reduceCtorEq, Nat.zero_add, ↓br_ft, Bool.bne_false]
  obtain ⟨mi, mt, idsV, hm2, hd, hi, ht⟩ := id hT
  have hidsS : ∀ {ph : List PH}, Seen ⟨Tryz.prog, 98, w, m⟩ ph m (L .t) 3 (.s idsV) := by
    intro ph
    obtain ⟨o, h1, e', rfl⟩ := ht.has .t trivial trivial
    refine seen_cell (u := m) kn_m (by rw [hm2]; exact (uni_r hd h1).1) rfl ?_
    rcases hi.2 with ⟨rfl, _⟩ | ⟨ad, c, rfl, _⟩ <;> rfl
  refine ld_of _ hidsS rfl ?_
  have hshape : ∃ a c, idsV = .slice a T.ids.length c ∧ ∀ d, d < T.ids.length → ∃ b o, a = some ⟨b, o, none⟩ ∧ Seen ⟨Tryz.prog, 98, w, m⟩ [] m b (o + d * 1) (gi (T.ids.getD d 0)) := by
    have hkn : KN (⟨Tryz.prog, 98, w, m⟩ : Ctx).u0 [m] mi := fun b o h => .inr ⟨m, by simp, by rw [hm2]; exact sub_uni_l mi mt b o h⟩
    rcases hi.toR.shape with ⟨h3, a, c, h4⟩ | ⟨h3, b, o, c, h4, h5, h6⟩
    · have : T.ids = [] := by simpa using h3
      exact ⟨a, c, by rw [h4, this]; rfl, fun d hd => by rw [this] at hd; simp at hd⟩
    · refine ⟨_, c, by simpa using h4, fun d hd => ⟨b, o, rfl, h6 hkn d _ ?_⟩⟩
      rw [List.getElem?_map, List.getD_eq_getElem?_getD, List.getElem?_eq_getElem hd]; rfl
  obtain ⟨a, c, rfl, hs⟩ := hshape
  simp (maxSteps := 2000000) only [vc_seq, vc_rgq, thenQ_n, kKeep_eq, segs_nil, ops_nil, ops_cons, qsegs_n, qops_cons, vcqOp, vcOp, isRd, ev, look, put_mk, keep_mk, keepL, binV, binC, GV.getT, Value.oneCell', cond_true, Nat.reduceEqDiff, ↓reduceIte, reduceCtorEq, List.nil_append, Nat.zero_add, Bool.true_and, Bool.not_false, true_and, getT_nil, fits_s, gUndo_fld0, gUndo_get0]
  rw [wrap64 (by omega) (by omega)]
  refine ld_of _ (hT.s_mark kn_m) rfl ?_
  simp (maxSteps := 2000000) only [qops_cons, vcqOp, vcOp, isRd, ev, look, put_mk, Nat.reduceEqDiff, ↓reduceIte, Bool.true_and, true_and, ptr]
  rw [hof]
  refine eq_of (eqG_same (i := (Tryz.prog.info? 139).get!) Tryz.underlying67 (by kernel_rfl) (by decide +kernel) _) ?_
  simp (maxSteps := 2000000) only [vc_ret, vc_seq, vc_rg, vc_ite, thenQ_n, thenQ_r, kKeep_eq, finQ_r, segs_nil, segs_n, segs_g, ops_nil, ops_cons, qsegs_nil, qsegs_n, qsegs_g, qops_nil, qops_cons, vcqOp, vcOp, isRd, RO.isGh, skip_mk, skipL, ev, look, put_mk, keep_mk, keepL, binV, binC, Value.oneCell', cond_true, cond_false, Nat.reduceEqDiff, ↓reduceIte, reduceCtorEq, Nat.zero_add, Bool.true_and, Bool.not_true, Bool.not_false, true_and, decide_eq_true_eq, decide_eq_false_iff_not, ↓br_tt, ↓br_ff, ↓br_tf, ↓br_ft, br_f, Bool.bne_true]
  have hlast : ∀ n, T.ids.length = n + 1 → T.ids.getLast? = some (T.ids.getD n 0) := fun n hn => by
    rw [List.getLast?_eq_getElem?, hn, Nat.add_sub_cancel, List.getD_eq_getElem?_getD, List.getElem?_eq_getElem (by omega)]; rfl
  refine ⟨fun hge => ?_, fun hlt => ?_⟩
  · obtain ⟨n, hn⟩ : ∃ n, T.ids.length = n + 1 := ⟨T.ids.length - 1, by omega⟩
    refine ld_of _ hidsS rfl ?_
    obtain ⟨b, o, rfl, hsn⟩ := hs n (by omega)
    simp (maxSteps := 2000000) only [qops_cons, vcqOp, vcOp, isRd, ev, look, put_mk, Nat.reduceEqDiff, ↓reduceIte, reduceCtorEq, Bool.true_and, true_and]
    have en : ((T.ids.length : Int) - 1).toNat = n := by omega
    rw [en]
    refine ⟨⟨by omega, by omega⟩, ld_of _ hsn rfl ?_⟩
    simp (maxSteps := 2000000) only [gi, bne_iff_ne, bne_eq_false_iff_eq, vc_skip, vc_ret, vc_seq, vc_rg, vc_ite, thenQ_n, thenQ_r, kKeep_eq, finQ_r, segs_nil, segs_n, segs_g, ops_nil, ops_cons, qsegs_nil, qops_nil, qops_cons, vcqOp, vcOp, isRd, ev, look, put_mk, keep_mk, keepL, binV, binC, GV.getT, Value.oneCell', cond_true, Nat.reduceEqDiff, ↓reduceIte, reduceCtorEq, List.nil_append, Nat.zero_add, Bool.true_and, Bool.not_false, true_and, ne_eq, ↓br_ff, ↓br_ft, br_t, getT_nil, fits_s, gUndo_fld1, gUndo_get1]
    rw [hlast n hn]
    refine ⟨fun hne' => ?_, fun heq => ?_⟩
    · exact fin_m m rfl (fun _ _ h => h) ⟨fun h => absurd (by simpa using h) hne', fun _ => ⟨rfl, hT⟩⟩
    rw [heq]
    obtain ⟨hs1, hs2⟩ := hsafe (by rw [hlast n hn, heq])
    refine ld_of _ hidsS rfl ?_
    simp (maxSteps := 2000000) only [ite_self, Nat.sub_zero, ops_cons, vcOp, ev, look, put_mk, bndN, Nat.reduceEqDiff, Nat.reduceMul, ↓reduceIte, reduceCtorEq, Nat.zero_add, Nat.add_zero, Bool.and_true, and_true, true_imp_iff, false_imp_iff, Int.toNat_natCast, not_true_eq_false]
    rw [en]
    have hcap : T.ids.length ≤ c := by
      rcases hi.2 with ⟨h1, h2⟩ | ⟨ad, c', h1, h2, _⟩
      · cases h1
      · simp only [Value.slice.injEq] at h1
        rw [← h1.2.2, List.length_map] at h2; exact h2
    have hdrop : T.ids.dropLast = T.ids.take n := by rw [List.dropLast_eq_take, hn, Nat.add_sub_cancel]
    have hi2 : SlO mi (.slice (some ⟨b, o, none⟩) n c) 3 1 (T.ids.dropLast.map gi) := by
      rw [hdrop, List.map_take]
      exact hi.take (by simp) (by omega) rfl
    refine ⟨⟨hcap, by omega, by omega, by omega⟩, TreeM.setIds (ids := T.ids.dropLast) hm2 hd ht hi2 fun m2 hT2 => ?_⟩
    simp (maxSteps := 2000000) only [vc_seq, vc_block, vc_rg, vc_rgq, vc_ite, thenQ_n, kKeep_eq, segs_nil, segs_n, ops_nil, ops_cons, qsegs_n, qops_cons, vcqOp, vcOp, isRd, ev, look, put_mk, put_mk0, keep_mk, keepL, binV, binC, GV.getT, Value.oneCell', cond_true, Nat.reduceEqDiff, ↓reduceIte, reduceCtorEq, List.nil_append, List.cons_append, Nat.add_zero, Bool.true_and, Bool.not_false, true_and, br_t, getT_nil, fits_s, gOp_fld1, gOp_get1, gOp_fld2, gOp_get2, gPlace_fits, gUndo_fld2, gUndo_get2, gUndo_fld3, gUndo_get3]
    refine ⟨fun k1 => ?_, fun k1 => ⟨fun k2 => ?_, fun k2 => ?_⟩⟩
    · rw [beq_iff_eq] at k1
      obtain ⟨x, hx⟩ := hs1 k1
      refine ld_of _ (hT2.s_map kn_m) rfl ?_
      simp (maxSteps := 2000000) only [qops_cons, vcqOp, vcOp, isRd, ev, look, put_mk, GV.getT, Nat.reduceEqDiff, ↓reduceIte, reduceCtorEq, List.nil_append, List.cons_append, Bool.true_and, Bool.not_false, true_and, getT_nil, fits_s, gOp_fld3, gOp_get3, gUndo_fld2, gUndo_get2]
      refine hT2.lk kn_m _ ?_
      rw [show ({ T with ids := T.ids.dropLast } : PT).get u.op.parent = some x from hx]
      simp (maxSteps := 2000000) only [qops_cons, vcqOp, vcOp, isRd, ev, look, put_mk, ↓reduceIte, Nat.zero_add, Bool.true_and, true_and, nptr_some]
      refine ld_of _ (hT2.s_node kn_m hx).2.2.2.1 rfl ?_
      simp (maxSteps := 2000000) only [segs_n, ops_cons, qsegs_nil, qops_nil, qops_cons, vcqOp, vcOp, isRd, ev, look, put_mk, GV.getT, Nat.reduceEqDiff, ↓reduceIte, reduceCtorEq, List.nil_append, List.cons_append, Bool.true_and, Bool.not_false, true_and, getT_nil, fits_s, gOp_fld2, gOp_get2, gUndo_fld2, gUndo_get2]
      refine TreeM.unkid (T := { T with ids := T.ids.dropLast }) hT2 hx fun m3 hT3 => ?_
      simp (maxSteps := 2000000) only [vc_rgq, thenQ_n, kKeep_eq, segs_nil, ops_nil, qsegs_n, qops_cons, vcqOp, vcOp, isRd, ev, look, put_mk, put_mk0, keep_mk, keepL, Nat.reduceEqDiff, ↓reduceIte, reduceCtorEq, Nat.add_zero, Bool.true_and, true_and]
      refine ld_of _ (hT3.s_map kn_m) rfl ?_
      simp (maxSteps := 2000000) only [segs_n, ops_cons, qsegs_nil, qops_nil, qops_cons, vcqOp, vcOp, isRd, ev, look, put_mk, GV.getT, Nat.reduceEqDiff, ↓reduceIte, reduceCtorEq, List.nil_append, List.cons_append, Bool.true_and, Bool.not_false, true_and, getT_nil, fits_s, gOp_fld2, gOp_get2, gUndo_fld2, gUndo_get2]
      refine hT3.delNode fun m4 hT4 => ?_
      simp (maxSteps := 2000000) only [vc_ret, vc_seq, vc_rg, thenQ_n, blockQ_n, kKeep_eq, finQ_r, segs_nil, segs_n, ops_nil, ops_cons, vcOp, ev, look, put_mk, put_mk0, keep_mk, keepL, Value.oneCell', cond_true, ↓reduceIte]
      refine fin_m _ rfl (fun _ _ h => h) ⟨rfl, ?_⟩
      rw [PT.undone]; simp only; rw [if_pos k1]; exact hT4
    · rw [beq_eq_false_iff_ne] at k1
      rw [beq_iff_eq] at k2
      obtain ⟨x, hx⟩ := hs2 k1
      refine call_all (Q := fun rs m' => rs = [] ∧ TM m' L (({ T with ids := T.ids.dropLast } : PT).put u.op.node u.was)) rfl rfl (fun w' vs hv hw _ => ?_) fun rs m4 _ hq => ?_
      · obtain ⟨vs, rfl, _, hv⟩ := argsV_g hv
        obtain ⟨vs, rfl, _, hv⟩ := argsV_g hv
        obtain ⟨vs, rfl, _, hv⟩ := argsV_g hv
        obtain rfl := argsV_nil hv
        exact put_spec w' m2 L _ u.op.node u.was x hx hT2
      obtain ⟨rfl, hT4⟩ := hq
      simp (maxSteps := 2000000) only [retS, vc_ret, vc_seq, vc_rg, thenQ_n, blockQ_n, kKeep_eq, finQ_r, segs_nil, segs_n, ops_nil, ops_cons, vcOp, ev, look, put_mk, keep_mk, keepL, Value.oneCell', cond_true, ↓reduceIte]
      refine fin_m _ rfl (fun _ _ h => h) ⟨rfl, ?_⟩
      rw [PT.undone]; simp only; rw [if_neg k1, if_pos k2]; exact hT4
    · rw [beq_eq_false_iff_ne] at k1 k2
      obtain ⟨x, hx⟩ := hs2 k1
      refine ld_of _ (hT2.s_map kn_m) rfl ?_
      simp (maxSteps := 2000000) only [qops_cons, vcqOp, vcOp, isRd, ev, look, put_mk, GV.getT, Nat.reduceEqDiff, ↓reduceIte, reduceCtorEq, List.nil_append, List.cons_append, Bool.true_and, Bool.not_false, true_and, getT_nil, fits_s, gOp_fld2, gOp_get2, gUndo_fld2, gUndo_get2]
      refine hT2.lk kn_m _ ?_
      rw [show ({ T with ids := T.ids.dropLast } : PT).get u.op.node = some x from hx]
      simp (maxSteps := 2000000) only [segs_n, ops_cons, qsegs_nil, qops_nil, qops_cons, vcqOp, vcOp, isRd, ev, look, put_mk, GV.getT, Nat.reduceEqDiff, ↓reduceIte, reduceCtorEq, List.nil_append, List.cons_append, Bool.true_and, Bool.not_false, true_and, getT_nil, fits_s, gOp_fld5, gOp_get5, gUndo_fld2, gUndo_get2, gUndo_fld4, gUndo_get4, nptr_some]
      refine call_all (Q := fun rs m' => rs = [] ∧ TM m' L (({ T with ids := T.ids.dropLast } : PT).attr u.op.node u.op.key u.attr)) rfl rfl (fun w' vs hv hw _ => ?_) fun rs m4 _ hq => ?_
      · obtain ⟨vs, rfl, _, hv⟩ := argsV_g hv
        obtain ⟨vs, rfl, _, hv⟩ := argsV_g hv
        obtain ⟨vs, rfl, _, hv⟩ := argsV_g hv
        obtain rfl := argsV_nil hv
        exact attr_spec w' m2 L _ u.op.node u.op.key u.attr x hx hT2
      obtain ⟨rfl, hT4⟩ := hq
      simp (maxSteps := 2000000) only [retS, vc_ret, vc_seq, vc_rg, thenQ_n, blockQ_n, kKeep_eq, finQ_r, segs_nil, segs_n, ops_nil, ops_cons, vcOp, ev, look, put_mk, keep_mk, keepL, Value.oneCell', cond_true, ↓reduceIte]
      refine fin_m _ rfl (fun _ _ h => h) ⟨rfl, ?_⟩
      rw [PT.undone]; simp only; rw [if_neg k1, if_neg k2]; exact hT4
  · have : T.ids = [] := List.length_eq_zero_iff.1 (by omega)
    refine fin_m m rfl (fun _ _ h => h) ⟨fun h => ?_, fun _ => ⟨rfl, hT⟩⟩
    rw [this] at h; cases h
end Go.Proofs.YtmjiojflncffeaaGreat.Vc

/-
  DERIVED: THE SHELF's CONTRACTS AT THIS DUMP, IN PLAIN WORDS (tools/lay-plain.mjs out of 'TryzShelf13.lean', which tools/lay-shelf.mjs wrote): THE SAME DECLARATIONS UNDER THE SAME NAMES: 'import', 'namespace', 'open', 'def', 'theorem' AND NOTHING ELSE: no command of the shelf's: FOR A HAND-IN. Each laying: the table of numbers ('.._ren') and one theorem, a field a fact of the dump's own or the kernel's comparison; each contract: ONE APPLICATION.
-/
namespace Go.Proofs
open Go.Shelf
def Tryz.keysI_ren : Go.Shelf.Ren := ⟨fun | 7 => 58 | 10 => 94 | n => n, fun | 23 => 114 | 26 => 2 | 3 => 115 | 28 => 112 | 0 => 0 | 27 => 111 | 33 => 106 | 4 => 4 | n => n, fun | n => n⟩
theorem Tryz.keysI : Go.Proofs.SlLaysZI.n7 Tryz.prog Tryz.keysI_ren := {
  mixed := by kernel_rfl
  f7 := ⟨Tryz.f58.name, by decide, Tryz.func58.trans (congrArg some (by kernel_rfl))⟩
  f10 := ⟨Tryz.f94.name, by decide, Tryz.func94.trans (congrArg some (by kernel_rfl))⟩
  t0 := Tryz.underlying0
  a0 := Tryz.isAgg0
  z0 := Tryz.sizeOf0
  v0 := Tryz.zeroValue0
  t4 := Tryz.underlying4
  a4 := Tryz.isAgg4
  z4 := Tryz.sizeOf4
  v4 := Tryz.zeroValue4
  t23 := Tryz.underlying114
  a23 := Tryz.isAgg114
  z23 := Tryz.sizeOf114
  v23 := Tryz.zeroValue114
  t26 := Tryz.underlying2
  a26 := Tryz.isAgg2
  z26 := Tryz.sizeOf2
  v26 := Tryz.zeroValue2
  t27 := Tryz.underlying111
  a27 := Tryz.isAgg111
  z27 := Tryz.sizeOf111
  v27 := Tryz.zeroValue111
  t28 := Tryz.underlying112
  a28 := Tryz.isAgg112
  z28 := Tryz.sizeOf112
  v28 := Tryz.zeroValue112
  t33 := Tryz.underlying106
  a33 := Tryz.isAgg106
  z33 := Tryz.sizeOf106
  v33 := Tryz.zeroValue106 }
def Tryz.sortedI_ren : Go.Shelf.Ren := ⟨fun | 6 => 57 | 8 => 92 | 9 => 93 | 11 => 130 | 13 => 76 | 12 => 131 | 23 => 116 | 24 => 117 | 14 => 147 | 15 => 148 | 16 => 149 | 17 => 150 | 18 => 151 | 19 => 152 | 20 => 153 | 21 => 154 | 22 => 155 | 25 => 162 | 26 => 139 | 27 => 140 | 28 => 163 | 29 => 164 | 30 => 118 | 31 => 178 | n => n, fun | 26 => 2 | 28 => 112 | 24 => 109 | 0 => 0 | 3 => 3 | 37 => 142 | 48 => 178 | 50 => 180 | 4 => 4 | 40 => 172 | 39 => 171 | 45 => 94 | 5 => 5 | 9 => 9 | 51 => 191 | 55 => 195 | 57 => 207 | 58 => 208 | 33 => 106 | n => n, fun | n => n⟩
theorem Tryz.sortedI : Go.Proofs.SlLaysZI.n6 Tryz.prog Tryz.sortedI_ren := {
  mixed := by kernel_rfl
  f6 := ⟨Tryz.f57.name, by decide, Tryz.func57.trans (congrArg some (by kernel_rfl))⟩
  f8 := ⟨Tryz.f92.name, by decide, Tryz.func92.trans (congrArg some (by kernel_rfl))⟩
  f11 := ⟨Tryz.f130.name, by decide, Tryz.func130.trans (congrArg some (by kernel_rfl))⟩
  t0 := Tryz.underlying0
  a0 := Tryz.isAgg0
  z0 := Tryz.sizeOf0
  v0 := Tryz.zeroValue0
  t24 := Tryz.underlying109
  a24 := Tryz.isAgg109
  z24 := Tryz.sizeOf109
  v24 := Tryz.zeroValue109
  t26 := Tryz.underlying2
  a26 := Tryz.isAgg2
  z26 := Tryz.sizeOf2
  v26 := Tryz.zeroValue2
  t28 := Tryz.underlying112
  a28 := Tryz.isAgg112
  z28 := Tryz.sizeOf112
  v28 := Tryz.zeroValue112
  i26 := by kernel_rfl }
def Tryz.sortI_ren : Go.Shelf.Ren := ⟨fun | 5 => 93 | 8 => 76 | 7 => 131 | 19 => 116 | 20 => 117 | 10 => 147 | 11 => 148 | 12 => 149 | 13 => 150 | 14 => 151 | 15 => 152 | 16 => 153 | 17 => 154 | 18 => 155 | 30 => 162 | 31 => 139 | 32 => 140 | 33 => 163 | 34 => 164 | 35 => 118 | 40 => 178 | n => n, fun | 23 => 109 | 25 => 2 | 3 => 3 | 32 => 142 | 22 => 109 | 0 => 0 | 44 => 178 | 46 => 180 | 4 => 4 | 36 => 172 | 35 => 171 | 41 => 94 | 5 => 5 | 9 => 9 | 53 => 191 | 57 => 195 | 63 => 207 | 64 => 208 | n => n, fun | n => n⟩
theorem Tryz.sortI : Go.Proofs.SlLaysM.n5 Tryz.prog Tryz.sortI_ren := {
  mixed := by kernel_rfl
  f5 := ⟨Tryz.f93.name, by decide, Tryz.func93.trans (congrArg some (by kernel_rfl))⟩
  f7 := ⟨Tryz.f131.name, by decide, Tryz.func131.trans (congrArg some (by kernel_rfl))⟩
  f8 := Tryz.func76.trans (congrArg some (by kernel_rfl))
  f10 := ⟨Tryz.f147.name, by decide, Tryz.func147.trans (congrArg some (by kernel_rfl))⟩
  f11 := ⟨Tryz.f148.name, by decide, Tryz.func148.trans (congrArg some (by kernel_rfl))⟩
  f12 := ⟨Tryz.f149.name, by decide, Tryz.func149.trans (congrArg some (by kernel_rfl))⟩
  f13 := ⟨Tryz.f150.name, by decide, Tryz.func150.trans (congrArg some (by kernel_rfl))⟩
  f14 := ⟨Tryz.f151.name, by decide, Tryz.func151.trans (congrArg some (by kernel_rfl))⟩
  f15 := ⟨Tryz.f152.name, by decide, Tryz.func152.trans (congrArg some (by kernel_rfl))⟩
  f16 := ⟨Tryz.f153.name, by decide, Tryz.func153.trans (congrArg some (by kernel_rfl))⟩
  f17 := ⟨Tryz.f154.name, by decide, Tryz.func154.trans (congrArg some (by kernel_rfl))⟩
  f18 := ⟨Tryz.f155.name, by decide, Tryz.func155.trans (congrArg some (by kernel_rfl))⟩
  f19 := Tryz.func116.trans (congrArg some (by kernel_rfl))
  f20 := Tryz.func117.trans (congrArg some (by kernel_rfl))
  f30 := ⟨Tryz.f162.name, by decide, Tryz.func162.trans (congrArg some (by kernel_rfl))⟩
  f31 := Tryz.func139.trans (congrArg some (by kernel_rfl))
  f32 := Tryz.func140.trans (congrArg some (by kernel_rfl))
  f33 := ⟨Tryz.f163.name, by decide, Tryz.func163.trans (congrArg some (by kernel_rfl))⟩
  f34 := ⟨Tryz.f164.name, by decide, Tryz.func164.trans (congrArg some (by kernel_rfl))⟩
  f35 := ⟨Tryz.f118.name, by decide, Tryz.func118.trans (congrArg some (by kernel_rfl))⟩
  f40 := ⟨Tryz.f178.name, by decide, Tryz.func178.trans (congrArg some (by kernel_rfl))⟩
  t0 := Tryz.underlying0
  a0 := Tryz.isAgg0
  z0 := Tryz.sizeOf0
  v0 := Tryz.zeroValue0
  t3 := Tryz.underlying3
  a3 := Tryz.isAgg3
  z3 := Tryz.sizeOf3
  v3 := Tryz.zeroValue3
  t4 := Tryz.underlying4
  a4 := Tryz.isAgg4
  z4 := Tryz.sizeOf4
  v4 := Tryz.zeroValue4
  t5 := Tryz.underlying5
  a5 := Tryz.isAgg5
  z5 := Tryz.sizeOf5
  v5 := Tryz.zeroValue5
  t9 := Tryz.underlying9
  a9 := Tryz.isAgg9
  z9 := Tryz.sizeOf9
  v9 := Tryz.zeroValue9
  t22 := Tryz.underlying109
  a22 := Tryz.isAgg109
  z22 := Tryz.sizeOf109
  v22 := Tryz.zeroValue109
  t23 := Tryz.underlying109
  a23 := Tryz.isAgg109
  z23 := Tryz.sizeOf109
  v23 := Tryz.zeroValue109
  t25 := Tryz.underlying2
  a25 := Tryz.isAgg2
  z25 := Tryz.sizeOf2
  v25 := Tryz.zeroValue2
  t32 := Tryz.underlying142
  a32 := Tryz.isAgg142
  z32 := Tryz.sizeOf142
  v32 := Tryz.zeroValue142
  t35 := Tryz.underlying171
  a35 := Tryz.isAgg171
  z35 := Tryz.sizeOf171
  v35 := Tryz.zeroValue171
  t36 := Tryz.underlying172
  a36 := Tryz.isAgg172
  z36 := Tryz.sizeOf172
  v36 := Tryz.zeroValue172
  t41 := Tryz.underlying94
  a41 := Tryz.isAgg94
  z41 := Tryz.sizeOf94
  v41 := Tryz.zeroValue94
  t44 := Tryz.underlying178
  a44 := Tryz.isAgg178
  z44 := Tryz.sizeOf178
  v44 := Tryz.zeroValue178
  t46 := Tryz.underlying180
  a46 := Tryz.isAgg180
  z46 := Tryz.sizeOf180
  v46 := Tryz.zeroValue180
  t53 := Tryz.underlying191
  a53 := Tryz.isAgg191
  z53 := Tryz.sizeOf191
  v53 := Tryz.zeroValue191
  t57 := Tryz.underlying195
  a57 := Tryz.isAgg195
  z57 := Tryz.sizeOf195
  v57 := Tryz.zeroValue195
  t63 := Tryz.underlying207
  a63 := Tryz.isAgg207
  z63 := Tryz.sizeOf207
  v63 := Tryz.zeroValue207
  t64 := Tryz.underlying208
  a64 := Tryz.isAgg208
  z64 := Tryz.sizeOf208
  v64 := Tryz.zeroValue208 }
def Tryz.keysT_ren : Go.Shelf.Ren := ⟨fun | 7 => 96 | 10 => 134 | n => n, fun | 23 => 129 | 26 => 9 | 3 => 9 | 28 => 158 | 0 => 0 | 27 => 157 | 33 => 151 | 4 => 4 | n => n, fun | n => n⟩
theorem Tryz.keysT : Go.Proofs.SlLaysZ.n7 Tryz.prog Tryz.keysT_ren := {
  mixed := by kernel_rfl
  f7 := ⟨Tryz.f96.name, by decide, Tryz.func96.trans (congrArg some (by kernel_rfl))⟩
  f10 := ⟨Tryz.f134.name, by decide, Tryz.func134.trans (congrArg some (by kernel_rfl))⟩
  t0 := Tryz.underlying0
  a0 := Tryz.isAgg0
  z0 := Tryz.sizeOf0
  v0 := Tryz.zeroValue0
  t4 := Tryz.underlying4
  a4 := Tryz.isAgg4
  z4 := Tryz.sizeOf4
  v4 := Tryz.zeroValue4
  t23 := Tryz.underlying129
  a23 := Tryz.isAgg129
  z23 := Tryz.sizeOf129
  v23 := Tryz.zeroValue129
  t26 := Tryz.underlying9
  a26 := Tryz.isAgg9
  z26 := Tryz.sizeOf9
  v26 := Tryz.zeroValue9
  t27 := Tryz.underlying157
  a27 := Tryz.isAgg157
  z27 := Tryz.sizeOf157
  v27 := Tryz.zeroValue157
  t28 := Tryz.underlying158
  a28 := Tryz.isAgg158
  z28 := Tryz.sizeOf158
  v28 := Tryz.zeroValue158
  t33 := Tryz.underlying151
  a33 := Tryz.isAgg151
  z33 := Tryz.sizeOf151
  v33 := Tryz.zeroValue151 }
def Tryz.sortedT_ren : Go.Shelf.Ren := ⟨fun | 6 => 95 | 8 => 132 | 9 => 133 | 11 => 156 | 13 => 76 | 12 => 157 | 23 => 116 | 24 => 117 | 14 => 165 | 15 => 166 | 16 => 167 | 17 => 168 | 18 => 169 | 19 => 170 | 20 => 171 | 21 => 172 | 22 => 173 | 25 => 179 | 26 => 139 | 27 => 140 | 28 => 180 | 29 => 181 | 30 => 182 | 31 => 185 | n => n, fun | 26 => 9 | 28 => 158 | 24 => 155 | 0 => 0 | 3 => 3 | 37 => 142 | 48 => 178 | 50 => 180 | 4 => 4 | 40 => 172 | 39 => 171 | 45 => 94 | 5 => 5 | 9 => 9 | 51 => 191 | 55 => 195 | 57 => 207 | 58 => 208 | 33 => 151 | n => n, fun | n => n⟩
theorem Tryz.sortedT : Go.Proofs.SlLaysZ.n6 Tryz.prog Tryz.sortedT_ren := {
  mixed := by kernel_rfl
  f6 := ⟨Tryz.f95.name, by decide, Tryz.func95.trans (congrArg some (by kernel_rfl))⟩
  f8 := ⟨Tryz.f132.name, by decide, Tryz.func132.trans (congrArg some (by kernel_rfl))⟩
  f11 := ⟨Tryz.f156.name, by decide, Tryz.func156.trans (congrArg some (by kernel_rfl))⟩
  t0 := Tryz.underlying0
  a0 := Tryz.isAgg0
  z0 := Tryz.sizeOf0
  v0 := Tryz.zeroValue0
  t24 := Tryz.underlying155
  a24 := Tryz.isAgg155
  z24 := Tryz.sizeOf155
  v24 := Tryz.zeroValue155
  t26 := Tryz.underlying9
  a26 := Tryz.isAgg9
  z26 := Tryz.sizeOf9
  v26 := Tryz.zeroValue9
  t28 := Tryz.underlying158
  a28 := Tryz.isAgg158
  z28 := Tryz.sizeOf158
  v28 := Tryz.zeroValue158
  i26 := by kernel_rfl }
def Tryz.sortT_ren : Go.Shelf.Ren := ⟨fun | 6 => 133 | 8 => 76 | 9 => 157 | 19 => 116 | 20 => 117 | 21 => 165 | 22 => 166 | 23 => 167 | 24 => 168 | 25 => 169 | 26 => 170 | 27 => 171 | 28 => 172 | 29 => 173 | 36 => 179 | 31 => 139 | 32 => 140 | 37 => 180 | 38 => 181 | 39 => 182 | 41 => 185 | n => n, fun | 27 => 155 | 29 => 9 | 3 => 3 | 32 => 142 | 26 => 155 | 0 => 0 | 44 => 178 | 46 => 180 | 4 => 4 | 36 => 172 | 35 => 171 | 41 => 94 | 5 => 5 | 9 => 9 | 53 => 191 | 57 => 195 | 63 => 207 | 64 => 208 | n => n, fun | n => n⟩
theorem Tryz.sortT : Go.Proofs.SlLaysM.n6 Tryz.prog Tryz.sortT_ren := {
  mixed := by kernel_rfl
  f6 := ⟨Tryz.f133.name, by decide, Tryz.func133.trans (congrArg some (by kernel_rfl))⟩
  f8 := Tryz.func76.trans (congrArg some (by kernel_rfl))
  f9 := ⟨Tryz.f157.name, by decide, Tryz.func157.trans (congrArg some (by kernel_rfl))⟩
  f19 := Tryz.func116.trans (congrArg some (by kernel_rfl))
  f20 := Tryz.func117.trans (congrArg some (by kernel_rfl))
  f21 := ⟨Tryz.f165.name, by decide, Tryz.func165.trans (congrArg some (by kernel_rfl))⟩
  f22 := ⟨Tryz.f166.name, by decide, Tryz.func166.trans (congrArg some (by kernel_rfl))⟩
  f23 := ⟨Tryz.f167.name, by decide, Tryz.func167.trans (congrArg some (by kernel_rfl))⟩
  f24 := ⟨Tryz.f168.name, by decide, Tryz.func168.trans (congrArg some (by kernel_rfl))⟩
  f25 := ⟨Tryz.f169.name, by decide, Tryz.func169.trans (congrArg some (by kernel_rfl))⟩
  f26 := ⟨Tryz.f170.name, by decide, Tryz.func170.trans (congrArg some (by kernel_rfl))⟩
  f27 := ⟨Tryz.f171.name, by decide, Tryz.func171.trans (congrArg some (by kernel_rfl))⟩
  f28 := ⟨Tryz.f172.name, by decide, Tryz.func172.trans (congrArg some (by kernel_rfl))⟩
  f29 := ⟨Tryz.f173.name, by decide, Tryz.func173.trans (congrArg some (by kernel_rfl))⟩
  f31 := Tryz.func139.trans (congrArg some (by kernel_rfl))
  f32 := Tryz.func140.trans (congrArg some (by kernel_rfl))
  f36 := ⟨Tryz.f179.name, by decide, Tryz.func179.trans (congrArg some (by kernel_rfl))⟩
  f37 := ⟨Tryz.f180.name, by decide, Tryz.func180.trans (congrArg some (by kernel_rfl))⟩
  f38 := ⟨Tryz.f181.name, by decide, Tryz.func181.trans (congrArg some (by kernel_rfl))⟩
  f39 := ⟨Tryz.f182.name, by decide, Tryz.func182.trans (congrArg some (by kernel_rfl))⟩
  f41 := ⟨Tryz.f185.name, by decide, Tryz.func185.trans (congrArg some (by kernel_rfl))⟩
  t0 := Tryz.underlying0
  a0 := Tryz.isAgg0
  z0 := Tryz.sizeOf0
  v0 := Tryz.zeroValue0
  t3 := Tryz.underlying3
  a3 := Tryz.isAgg3
  z3 := Tryz.sizeOf3
  v3 := Tryz.zeroValue3
  t4 := Tryz.underlying4
  a4 := Tryz.isAgg4
  z4 := Tryz.sizeOf4
  v4 := Tryz.zeroValue4
  t5 := Tryz.underlying5
  a5 := Tryz.isAgg5
  z5 := Tryz.sizeOf5
  v5 := Tryz.zeroValue5
  t9 := Tryz.underlying9
  a9 := Tryz.isAgg9
  z9 := Tryz.sizeOf9
  v9 := Tryz.zeroValue9
  t26 := Tryz.underlying155
  a26 := Tryz.isAgg155
  z26 := Tryz.sizeOf155
  v26 := Tryz.zeroValue155
  t27 := Tryz.underlying155
  a27 := Tryz.isAgg155
  z27 := Tryz.sizeOf155
  v27 := Tryz.zeroValue155
  t29 := Tryz.underlying9
  a29 := Tryz.isAgg9
  z29 := Tryz.sizeOf9
  v29 := Tryz.zeroValue9
  t32 := Tryz.underlying142
  a32 := Tryz.isAgg142
  z32 := Tryz.sizeOf142
  v32 := Tryz.zeroValue142
  t35 := Tryz.underlying171
  a35 := Tryz.isAgg171
  z35 := Tryz.sizeOf171
  v35 := Tryz.zeroValue171
  t36 := Tryz.underlying172
  a36 := Tryz.isAgg172
  z36 := Tryz.sizeOf172
  v36 := Tryz.zeroValue172
  t41 := Tryz.underlying94
  a41 := Tryz.isAgg94
  z41 := Tryz.sizeOf94
  v41 := Tryz.zeroValue94
  t44 := Tryz.underlying178
  a44 := Tryz.isAgg178
  z44 := Tryz.sizeOf178
  v44 := Tryz.zeroValue178
  t46 := Tryz.underlying180
  a46 := Tryz.isAgg180
  z46 := Tryz.sizeOf180
  v46 := Tryz.zeroValue180
  t53 := Tryz.underlying191
  a53 := Tryz.isAgg191
  z53 := Tryz.sizeOf191
  v53 := Tryz.zeroValue191
  t57 := Tryz.underlying195
  a57 := Tryz.isAgg195
  z57 := Tryz.sizeOf195
  v57 := Tryz.zeroValue195
  t63 := Tryz.underlying207
  a63 := Tryz.isAgg207
  z63 := Tryz.sizeOf207
  v63 := Tryz.zeroValue207
  t64 := Tryz.underlying208
  a64 := Tryz.isAgg208
  z64 := Tryz.sizeOf208
  v64 := Tryz.zeroValue208 }
end Go.Proofs

/- slices.Sorted(maps.Keys(m)): the kit's contracts as contracts of these texts. -/
set_option linter.unusedVariables false
set_option linter.unusedSimpArgs false
namespace Go.Proofs.YtmjiojflncffeaaGreat.Vc
open Go Go.Proofs Go.RowKit Go.Maps Go.Sort Go.Shelf

def keyI (p : Value × Value) : Int := match p.1 with | .int _ n => n | _ => 0
def keyT (p : Value × Value) : List UInt8 := match p.1 with | .string s => s.data.toList | _ => []
def anyD (_ : Value) : Option (DataW Unit × List MemPlace) := some (.nil, [])

theorem owns_int {w : World} {b : Nat} {o : Obj} {l : List (Value × Value)} {kt : TypeId} (hk : Tryz.prog.underlying kt = some (.int .i64)) (hb : w.heap[b]? = some o) (hm : MapI (some .i64) o l) (hr : ∀ p ∈ l, (Lit.int .i64 (keyI p)).wf = true) (hs : l.length ≤ maxLen) :
    ∃ nn D0, w.ownsMap Tryz.prog kt anyD b nn D0 ∧ (intKeys D0).Perm (l.map keyI) ∧ Maps.size D0 = l.length := by
  obtain ⟨es, cl, rfl, rfl, h1, h2⟩ := hm
  have hlen : es.size ≤ maxLen := by simpa using hs
  have hrd : ∀ x ∈ es.toList, Go.WideElems.rd Tryz.prog kt anyD x = some (.int .i64 (keyI (kv x)), .nil) := fun x hx => by
    obtain ⟨g1, _⟩ := h2 x hx
    have g2 := hr (kv x) (List.mem_map.2 ⟨x, hx, rfl⟩)
    cases hkx : x.key with
    | int k n =>
      rw [hkx] at g1
      have : k = .i64 := g1
      subst this
      have e : keyI (kv x) = n := by simp [keyI, kv, hkx]
      rw [e] at g2 ⊢
      unfold Go.WideElems.rd
      rw [hkx, keyOf_int_mk hk g2]
      rfl
    | _ => rw [hkx] at g1; exact g1.elim
  have hrg : ∀ x ∈ es.toList, Go.WideElems.rg Tryz.prog kt anyD x = (.int .i64 (keyI (kv x)), .nil) := fun x hx => by
    unfold Go.WideElems.rg; rw [hrd x hx]; rfl
  refine ⟨es.size, .map ((es.toList.map (Go.WideElems.rg Tryz.prog kt anyD)).foldr DataW.insert []), ⟨es, cl, hb, ⟨hlen, h1, fun x hx => ⟨_, hrd x hx⟩⟩, Nat.le_refl _, rfl⟩, ?_, ?_⟩
  · have hp := Go.WideShapes.sorted_perm (es.toList.map (Go.WideElems.rg Tryz.prog kt anyD))
    have := hp.map (fun p : Lit × DataW Unit => _root_.Go.intOf p.1)
    refine (show (intKeys (H := Unit) (.map ((es.toList.map (Go.WideElems.rg Tryz.prog kt anyD)).foldr DataW.insert []))).Perm _ from this).trans (List.Perm.of_eq ?_)
    rw [List.map_map, List.map_map]
    exact List.map_congr_left fun x hx => by simp [Function.comp, hrg x hx, _root_.Go.intOf]
  · have hp := Go.WideShapes.sorted_perm (es.toList.map (Go.WideElems.rg Tryz.prog kt anyD))
    rw [Maps.size_eq, hp.length_eq]
    simp
theorem owns_str {w : World} {b : Nat} {o : Obj} {l : List (Value × Value)} {kt : TypeId} (hk : Tryz.prog.underlying kt = some .string) (hb : w.heap[b]? = some o) (hm : MapI none o l) (hr : ∀ p ∈ l, (keyT p).length ≤ maxLen) (hs : l.length ≤ maxLen) :
    ∃ nn D0, w.ownsMap Tryz.prog kt anyD b nn D0 ∧ (strKeys D0).Perm (l.map keyT) ∧ Maps.size D0 = l.length := by
  obtain ⟨es, cl, rfl, rfl, h1, h2⟩ := hm
  have hlen : es.size ≤ maxLen := by simpa using hs
  have hrd : ∀ x ∈ es.toList, Go.WideElems.rd Tryz.prog kt anyD x = some (.string (keyT (kv x)), .nil) := fun x hx => by
    obtain ⟨g1, _⟩ := h2 x hx
    have g2 := hr (kv x) (List.mem_map.2 ⟨x, hx, rfl⟩)
    cases hkx : x.key with
    | string s =>
      have e : keyT (kv x) = s.data.toList := by simp [keyT, kv, hkx]
      rw [e] at g2 ⊢
      have g3 : s.size ≤ maxLen := by rw [Array.length_toList] at g2; exact g2
      unfold Go.WideElems.rd
      rw [hkx]
      simp [keyOf, hk, mapKey, g3, anyD]
    | _ => rw [hkx] at g1; exact g1.elim
  have hrg : ∀ x ∈ es.toList, Go.WideElems.rg Tryz.prog kt anyD x = (.string (keyT (kv x)), .nil) := fun x hx => by
    unfold Go.WideElems.rg; rw [hrd x hx]; rfl
  refine ⟨es.size, .map ((es.toList.map (Go.WideElems.rg Tryz.prog kt anyD)).foldr DataW.insert []), ⟨es, cl, hb, ⟨hlen, h1, fun x hx => ⟨_, hrd x hx⟩⟩, Nat.le_refl _, rfl⟩, ?_, ?_⟩
  · have hp := Go.WideShapes.sorted_perm (es.toList.map (Go.WideElems.rg Tryz.prog kt anyD))
    have := hp.map (fun p : Lit × DataW Unit => strOf p.1)
    refine (show (strKeys (H := Unit) (.map ((es.toList.map (Go.WideElems.rg Tryz.prog kt anyD)).foldr DataW.insert []))).Perm _ from this).trans (List.Perm.of_eq ?_)
    rw [List.map_map, List.map_map]
    exact List.map_congr_left fun x hx => by simp [Function.comp, hrg x hx, strOf]
  · have hp := Go.WideShapes.sorted_perm (es.toList.map (Go.WideElems.rg Tryz.prog kt anyD))
    rw [Maps.size_eq, hp.length_eq]
    simp

theorem sortsI (m : Nat) : AnyZI.SortsIn Tryz.prog Tryz.sortedI_ren Fence.wide m :=
  ⟨fun blk off cap ss W hH hblk hsz => callsIn_wide.2 (AnyM.slices_Sort_int Tryz.sortI blk off cap ss W hH hblk hsz),
   fun p cap W => callsIn_wide.2 (AnyM.slices_Sort_int_none Tryz.sortI p cap W)⟩
theorem sortsT (m : Nat) : AnyZ.SortsIn Tryz.prog Tryz.sortedT_ren Fence.wide m :=
  ⟨fun blk off cap ss W hH hblk hsz => callsIn_wide.2 (AnyM.slices_Sort_string Tryz.sortT blk off cap ss W hH hblk hsz),
   fun p cap W => callsIn_wide.2 (AnyM.slices_Sort_string_none Tryz.sortT p cap W)⟩

abbrev fKeysI : Nat := 58
abbrev fKeysI1 : Nat := 94
abbrev fSortedI : Nat := 57
abbrev fKeysT : Nat := 96
abbrev fKeysT1 : Nat := 134
abbrev fSortedT : Nat := 95

/-- What goes over a map's keys. -/
def keysV (f b : Nat) : Value := .func (.func f) #[] #[ptr b]
def KeysQ (f b : Nat) (rs : List GV) (m' : PH) : Prop := ∃ bm e, rs = [.s (keysV f bm)] ∧ m' bm = some (.cells #[.map (some b)] e (0, 0))

theorem spec_alloc {P : Program} {f : Nat} {args : List Value} {w : World} {ob : Obj} {v : Value} {Q : List GV → PH → Prop} (h : Calls P f args.toArray w fun e w' => e = .returned v ∧ w' = w.alloc ob) (hv : v.oneCell' = true) (hn : ∀ xs, v ≠ .tuple xs) (hq : Q [.s v] (one w.heap.size ob)) : Spec P f args PH.no w Q := by
  intro _
  refine h.mono fun e w' ⟨he, hw⟩ => ?_
  subst hw
  refine ⟨[.s v], one w.heap.size ob, by rw [he]; rfl, by simpa [GV.ok] using hv, hq, ?_, ?_, ⟨rfl, rfl, rfl, by simp, fun k hk _ => alloc_old hk⟩⟩
  · intro b o hb
    simp only [one] at hb
    split at hb
    · rename_i e; subst e
      simp only [Option.some.injEq] at hb
      subst hb
      exact alloc_new
    · cases hb
  · intro b hb
    right
    simp only [one] at hb
    split at hb
    · rename_i e; omega
    · exact absurd rfl hb

theorem keysI_spec (w : World) (b : Nat) : Spec Tryz.prog fKeysI [.map (some b)] PH.no w (KeysQ fKeysI1 b) :=
  spec_alloc (callsIn_wide.1 (AnyZI.keys_in Tryz.keysI Fence.wide 5 trivial rfl (some b) w)) rfl (fun xs h => by cases h) ⟨_, _, rfl, by simp [one]; rfl⟩
theorem keysT_spec (w : World) (b : Nat) : Spec Tryz.prog fKeysT [.map (some b)] PH.no w (KeysQ fKeysT1 b) :=
  spec_alloc (callsIn_wide.1 (AnyZ.keys_in Tryz.keysT Fence.wide 5 trivial rfl (some b) w)) rfl (fun xs h => by cases h) ⟨_, _, rfl, by simp [one]; rfl⟩

/-- A new row, handed back. -/
theorem spec_row {P : Program} {f : Nat} {args : List Value} {w : World} {et : TypeId} {Q : List GV → PH → Prop} (h : Calls P f args.toArray w fun e w' => ∃ v xs, e = .returned v ∧ w'.ownsRow w.heap.size et 1 v xs.length xs ∧ Below w.heap.size w w' ∧ (∀ x ∈ xs, x.oneCell' = true) ∧ ∀ m', SlO m' v et 1 (xs.map GV.s) → Q [.s v] m') : Spec P f args PH.no w Q := by
  intro _
  refine h.mono fun e w' ⟨v, xs, he, ⟨_, hrow⟩, hbl, hone, hq⟩ => ?_
  have hfl : ∀ l : List Value, flats (l.map GV.s) = l := fun l => by
    induction l with
    | nil => rfl
    | cons x l ih => simp only [flats, List.map_cons, List.flatMap_cons, GV.flat] at ih ⊢; rw [ih]; rfl
  have hels : Els 1 (xs.map GV.s) := fun x hx => by
    obtain ⟨y, hy, rfl⟩ := List.mem_map.1 hx
    exact ⟨hone y hy, rfl⟩
  rcases hrow with ⟨rfl, hz⟩ | ⟨g, cap, cur, rfl, hbase, hg, h1, h2, h3, h4⟩
  · have : xs = [] := List.length_eq_zero_iff.1 hz
    subst this
    exact ⟨[.s (.slice none 0 0)], PH.no, by rw [he]; rfl, by simp [GV.ok, Value.oneCell'], hq _ ⟨fun x hx => by simp at hx, .inl ⟨rfl, rfl⟩⟩, (fun _ _ h => by cases h), (fun b hb => absurd rfl hb), hbl.os, hbl.tape, hbl.output, hbl.size, fun k hk _ => hbl.block k hk⟩
  · refine ⟨[.s (.slice (some ⟨g, 0, none⟩) xs.length cap)], one g (.cells cur et (0, 0)), by rw [he]; rfl, by simp [GV.ok, Value.oneCell'], hq _ ⟨hels, .inr ⟨⟨g, 0, none⟩, cap, by simp, by simpa using h1, fun _ => ⟨cur, rfl, by simp [h3], by simp [one], fun j y hj => ?_⟩⟩⟩, ?_, ?_, hbl.os, hbl.tape, hbl.output, hbl.size, fun k hk _ => hbl.block k hk⟩
    · rw [hfl] at hj
      have : cur.toList[j]? = some y := by
        have hlt : j < xs.length := by
          rcases Nat.lt_or_ge j xs.length with h | h
          · exact h
          · rw [List.getElem?_eq_none h] at hj; cases hj
        rw [← h4] at hj
        rw [List.getElem?_take_of_lt (by omega)] at hj
        exact hj
      simpa using this
    · intro b o hb
      simp only [one] at hb
      split at hb
      · rename_i e; subst e
        simp only [Option.some.injEq] at hb
        subst hb
        exact hg
      · cases hb
    · intro b hb
      right
      simp only [one] at hb
      split at hb
      · rename_i e; omega
      · exact absurd rfl hb

def sortZ (l : List Int) : List Int := l.mergeSort fun x y => decide (x ≤ y)
def sortB (l : List (List UInt8)) : List (List UInt8) := l.mergeSort fun x y => decide (x ≤ y)

theorem sortedI_spec (w : World) (b bm : Nat) (e : TypeId) (fz : Nat × Nat) (o : Obj) (l : List (Value × Value)) (u : PH) (hu : u.le w) (hbm : u bm = some (.cells #[.map (some b)] e fz)) (hb : u b = some o) (hm : MapI (some .i64) o l) (hr : ∀ p ∈ l, (Lit.int .i64 (keyI p)).wf = true) (hs : l.length * 8 ≤ 140737488355328) :
    Spec Tryz.prog fSortedI [keysV fKeysI1 bm] PH.no w fun rs m' => ∃ v, rs = [.s v] ∧ SlO m' v 2 1 ((sortZ (l.map keyI)).map gi) := by
  have hmax : l.length ≤ maxLen := by unfold maxLen; omega
  obtain ⟨nn, D0, hown, hperm, hsize⟩ := owns_int (kt := 2) Tryz.underlying2 (hu _ _ hb) hm hr hmax
  have hblk := hu _ _ hbm
  have hseq : SeqGives Fence.wide 2 Tryz.prog fKeysI1 #[ptr bm] encZ (fun ss => ss.Perm (intKeys D0)) (Maps.size D0) w :=
    AnyZI.keys_gives (ρ := Tryz.keysI_ren) { Tryz.keysI with } Fence.wide _ trivial rfl (by omega) bm b nn D0 w (Array.getElem?_eq_some_iff.1 hblk).1 (by rw [cell_of hblk]; rfl) hown
  have cS := AnyZI.sorted_in Tryz.sortedI Fence.wide 5 trivial trivial trivial trivial rfl (by omega) (sortsI _) (enters_of Tryz.func93 (by kernel_rfl) rfl) fKeysI1 #[ptr bm] trivial (enters_of Tryz.func94 (by kernel_rfl) rfl) _ _ (by rw [hsize]; exact hmax) (by rw [hsize]; exact hs) w hseq
  refine spec_row (et := 2) ((callsIn_wide.1 cS).mono fun e w' ⟨v, ss, he, hS, hrow, _, hbl⟩ => ?_)
  have hss : (ss.mergeSort fun x y => decide (x ≤ y)) = sortZ (l.map keyI) := mergeSort_of_perm_i (hS.trans hperm)
  rw [hss] at hrow
  refine ⟨v, (sortZ (l.map keyI)).map encZ, he, ?_, hbl, fun x hx => ?_, fun m' hm' => ⟨v, rfl, ?_⟩⟩
  · have : ((sortZ (l.map keyI)).map encZ).length = ss.length := by rw [List.length_map, ← hss]; simp
    rw [this]; exact hrow
  · obtain ⟨n, _, rfl⟩ := List.mem_map.1 hx; rfl
  · rw [List.map_map] at hm'; exact hm'

theorem sortedT_spec (w : World) (b bm : Nat) (e : TypeId) (fz : Nat × Nat) (o : Obj) (l : List (Value × Value)) (u : PH) (hu : u.le w) (hbm : u bm = some (.cells #[.map (some b)] e fz)) (hb : u b = some o) (hm : MapI none o l) (hr : ∀ p ∈ l, (keyT p).length ≤ maxLen) (hs : l.length * 16 ≤ 140737488355328) :
    Spec Tryz.prog fSortedT [keysV fKeysT1 bm] PH.no w fun rs m' => ∃ v, rs = [.s v] ∧ SlO m' v 9 1 ((sortB (l.map keyT)).map fun b => .s (encStr b)) := by
  have hmax : l.length ≤ maxLen := by unfold maxLen; omega
  obtain ⟨nn, D0, hown, hperm, hsize⟩ := owns_str (kt := 9) Tryz.underlying9 (hu _ _ hb) hm hr hmax
  have hblk := hu _ _ hbm
  have hseq : SeqGives Fence.wide 2 Tryz.prog fKeysT1 #[ptr bm] encStr (fun ss => ss.Perm (strKeys D0)) (Maps.size D0) w :=
    AnyZ.keys_gives (ρ := Tryz.keysT_ren) { Tryz.keysT with } Fence.wide _ trivial rfl (by omega) bm b nn D0 w (Array.getElem?_eq_some_iff.1 hblk).1 (by rw [cell_of hblk]; rfl) hown
  have cS := AnyZ.sorted_in Tryz.sortedT Fence.wide 5 trivial trivial trivial trivial rfl (by omega) (sortsT _) (enters_of Tryz.func133 (by kernel_rfl) rfl) fKeysT1 #[ptr bm] trivial (enters_of Tryz.func134 (by kernel_rfl) rfl) _ _ (by rw [hsize]; exact hmax) (by rw [hsize]; exact hs) w hseq
  refine spec_row (et := 9) ((callsIn_wide.1 cS).mono fun e w' ⟨v, ss, he, hS, hrow, _, hbl⟩ => ?_)
  have hss : (ss.mergeSort fun x y => decide (x ≤ y)) = sortB (l.map keyT) := mergeSort_of_perm (hS.trans hperm)
  rw [hss] at hrow
  refine ⟨v, (sortB (l.map keyT)).map encStr, he, ?_, hbl, fun x hx => ?_, fun m' hm' => ⟨v, rfl, ?_⟩⟩
  · have : ((sortB (l.map keyT)).map encStr).length = ss.length := by rw [List.length_map, ← hss]; simp
    rw [this]; exact hrow
  · obtain ⟨n, _, rfl⟩ := List.mem_map.1 hx; rfl
  · rw [List.map_map] at hm'; exact hm'
end Go.Proofs.YtmjiojflncffeaaGreat.Vc

/- The code of some functions of the program, its types resolved: printed by a program of this claim. -/
set_option linter.unusedVariables false
set_option maxRecDepth 100000
namespace Go.Proofs.YtmjiojflncffeaaGreat.Vc
open Go Go.Proofs

abbrev f_tree_Tree_told : Nat := 59
def c_tree_Tree_told_L0 : Cd :=
 (.seq (.rg [⟨none, [(some 35, .bin .lss (.t 34) (.t 33))]⟩] [4, 5, 6, 32, 33, 34, 35])
 (.seq (.ite (.t 35)
 .skip
 (.exit 0))
 (.seq (.block 1 (.seq (.rg [⟨none, [(some 36, .idxS (.t 32) (.t 34) 1), (some 37, .ld (.t 36) 1 false), (some 8, .mv (.t 37))]⟩] [4, 5, 6, 8, 32, 33, 34])
 (.rga (.op ⟨none, [(some 38, .fldA (.t 6) 3 3)]⟩ (.op ⟨none, [(some 40, .mv (.t 8))]⟩ (.op ⟨none, [(some 41, .mv (.t 5))]⟩ (.op ⟨none, [(some 42, .nilc (.t 41))]⟩ (.op ⟨none, [(some 43, .fldA (.t 42) 1 2)]⟩ (.op ⟨none, [(some 45, .mv (.t 8))]⟩ (.or (.op ⟨none, [(some 39, .ld (.t 38) 1 false)]⟩ (.op ⟨none, [(some 44, .ld (.t 43) 1 false)]⟩ (.op ⟨none, [(some 46, .mlk none (.t 44) (.t 45) (.string ⟨#[]⟩) false)]⟩ (.op ⟨none, [(some 47, .bld (.c (.s (.string ⟨#[]⟩)) (.c (.s (.string ⟨#[]⟩)) .u)) [(0, (.t 40)), (1, (.t 46))])]⟩ (.op ⟨none, [(some 48, .bldS 75 2 (.c (.s (.string ⟨#[]⟩)) (.c (.s (.string ⟨#[]⟩)) .u)) [(.t 47)])]⟩ (.op ⟨none, [(some 49, .app 75 2 32 (.c (.s (.string ⟨#[]⟩)) (.c (.s (.string ⟨#[]⟩)) .u)) (.t 39) (.t 48))]⟩ (.op ⟨none, [(some 50, .fldA (.t 6) 3 3)]⟩ (.op ⟨none, [(none, .st (.t 50) (.t 49) 1)]⟩ .done)))))))) (.op ⟨none, [(some 44, .ld (.t 43) 1 false)]⟩ (.or (.op ⟨none, [(some 39, .ld (.t 38) 1 false)]⟩ (.op ⟨none, [(some 46, .mlk none (.t 44) (.t 45) (.string ⟨#[]⟩) false)]⟩ (.op ⟨none, [(some 47, .bld (.c (.s (.string ⟨#[]⟩)) (.c (.s (.string ⟨#[]⟩)) .u)) [(0, (.t 40)), (1, (.t 46))])]⟩ (.op ⟨none, [(some 48, .bldS 75 2 (.c (.s (.string ⟨#[]⟩)) (.c (.s (.string ⟨#[]⟩)) .u)) [(.t 47)])]⟩ (.op ⟨none, [(some 49, .app 75 2 32 (.c (.s (.string ⟨#[]⟩)) (.c (.s (.string ⟨#[]⟩)) .u)) (.t 39) (.t 48))]⟩ (.op ⟨none, [(some 50, .fldA (.t 6) 3 3)]⟩ (.op ⟨none, [(none, .st (.t 50) (.t 49) 1)]⟩ .done))))))) (.op ⟨none, [(some 46, .mlk none (.t 44) (.t 45) (.string ⟨#[]⟩) false)]⟩ (.op ⟨none, [(some 47, .bld (.c (.s (.string ⟨#[]⟩)) (.c (.s (.string ⟨#[]⟩)) .u)) [(0, (.t 40)), (1, (.t 46))])]⟩ (.or (.op ⟨none, [(some 39, .ld (.t 38) 1 false)]⟩ (.op ⟨none, [(some 48, .bldS 75 2 (.c (.s (.string ⟨#[]⟩)) (.c (.s (.string ⟨#[]⟩)) .u)) [(.t 47)])]⟩ (.op ⟨none, [(some 49, .app 75 2 32 (.c (.s (.string ⟨#[]⟩)) (.c (.s (.string ⟨#[]⟩)) .u)) (.t 39) (.t 48))]⟩ (.op ⟨none, [(some 50, .fldA (.t 6) 3 3)]⟩ (.op ⟨none, [(none, .st (.t 50) (.t 49) 1)]⟩ .done))))) (.op ⟨none, [(some 48, .bldS 75 2 (.c (.s (.string ⟨#[]⟩)) (.c (.s (.string ⟨#[]⟩)) .u)) [(.t 47)])]⟩ (.op ⟨none, [(some 39, .ld (.t 38) 1 false)]⟩ (.op ⟨none, [(some 49, .app 75 2 32 (.c (.s (.string ⟨#[]⟩)) (.c (.s (.string ⟨#[]⟩)) .u)) (.t 39) (.t 48))]⟩ (.op ⟨none, [(some 50, .fldA (.t 6) 3 3)]⟩ (.op ⟨none, [(none, .st (.t 50) (.t 49) 1)]⟩ .done))))))))))))))))) [4, 5, 6, 32, 33, 34])))
 (.rg [⟨none, [(some 51, .bin .add (.t 34) (.c (.int .i64 1))), (some 34, .mv (.t 51))]⟩] [4, 5, 6, 32, 33, 34]))))
def c_tree_Tree_told_R3 : Cd :=
 (.seq (.seq (.gh (.rg [⟨none, [(some 27, .mv (.t 5)), (some 28, .nilc (.t 27)), (some 29, .fldA (.t 28) 1 2), (some 30, .ld (.t 29) 1 false), (some 31, .call 96 [(.t 30)]), (some 32, .call 95 [(.t 31)]), (none, .gh), (some 33, .len (.t 32)), (some 34, .mv (.c (.int .i64 0)))]⟩] [4, 5, 6, 32, 33, 34]))
 (.block 0 (.loop c_tree_Tree_told_L0)))
 (.seq (.rg [⟨none, [(some 52, .ld (.t 6) 4 true), (none, .st (.t 4) (.t 52) 4)]⟩] [4])
 .ret))
def c_tree_Tree_told : Cd :=
 (.seq (.rg [⟨none, [(some 4, .new 49 (.c (.s (.int .i64 0)) (.c (.s (.int .i64 0)) (.c (.s (.string ⟨#[]⟩)) (.c (.s (.slice none 0 0)) .u)))))]⟩] [0, 1, 4])
 (.seq (.rg [⟨none, [(some 9, .mv (.t 0)), (some 10, .nilc (.t 9)), (some 11, .fldA (.t 10) 0 0), (some 12, .ld (.t 11) 1 false), (some 13, .mv (.t 1)), (some 14, .mlk (some .i64) (.t 12) (.t 13) (.pointer none) false), (some 5, .mv (.t 14))]⟩] [1, 4, 5])
 (.seq (.rga (.op ⟨none, [(some 15, .mv (.t 1))]⟩ (.op ⟨none, [(some 16, .mv (.t 5))]⟩ (.op ⟨none, [(some 17, .nilc (.t 16))]⟩ (.op ⟨none, [(some 18, .fldA (.t 17) 0 0)]⟩ (.op ⟨none, [(some 19, .fldA (.t 18) 0 0)]⟩ (.op ⟨none, [(some 21, .mv (.t 5))]⟩ (.op ⟨none, [(some 22, .nilc (.t 21))]⟩ (.op ⟨none, [(some 23, .fldA (.t 22) 0 0)]⟩ (.op ⟨none, [(some 24, .fldA (.t 23) 1 1)]⟩ (.or (.op ⟨none, [(some 20, .ld (.t 19) 1 false)]⟩ (.or (.op ⟨none, [(some 25, .ld (.t 24) 1 false)]⟩ (.op ⟨none, [(some 26, .bld (.c (.s (.int .i64 0)) (.c (.s (.int .i64 0)) (.c (.s (.string ⟨#[]⟩)) (.c (.s (.slice none 0 0)) .u)))) [(0, (.t 15)), (1, (.t 20)), (2, (.t 25))])]⟩ (.op ⟨none, [(some 6, .new 49 (.c (.s (.int .i64 0)) (.c (.s (.int .i64 0)) (.c (.s (.string ⟨#[]⟩)) (.c (.s (.slice none 0 0)) .u)))))]⟩ (.op ⟨none, [(none, .st (.t 6) (.t 26) 4)]⟩ .done)))) (.op ⟨none, [(some 6, .new 49 (.c (.s (.int .i64 0)) (.c (.s (.int .i64 0)) (.c (.s (.string ⟨#[]⟩)) (.c (.s (.slice none 0 0)) .u)))))]⟩ (.op ⟨none, [(some 25, .ld (.t 24) 1 false)]⟩ (.op ⟨none, [(some 26, .bld (.c (.s (.int .i64 0)) (.c (.s (.int .i64 0)) (.c (.s (.string ⟨#[]⟩)) (.c (.s (.slice none 0 0)) .u)))) [(0, (.t 15)), (1, (.t 20)), (2, (.t 25))])]⟩ (.op ⟨none, [(none, .st (.t 6) (.t 26) 4)]⟩ .done)))))) (.or (.op ⟨none, [(some 25, .ld (.t 24) 1 false)]⟩ (.or (.op ⟨none, [(some 20, .ld (.t 19) 1 false)]⟩ (.op ⟨none, [(some 26, .bld (.c (.s (.int .i64 0)) (.c (.s (.int .i64 0)) (.c (.s (.string ⟨#[]⟩)) (.c (.s (.slice none 0 0)) .u)))) [(0, (.t 15)), (1, (.t 20)), (2, (.t 25))])]⟩ (.op ⟨none, [(some 6, .new 49 (.c (.s (.int .i64 0)) (.c (.s (.int .i64 0)) (.c (.s (.string ⟨#[]⟩)) (.c (.s (.slice none 0 0)) .u)))))]⟩ (.op ⟨none, [(none, .st (.t 6) (.t 26) 4)]⟩ .done)))) (.op ⟨none, [(some 6, .new 49 (.c (.s (.int .i64 0)) (.c (.s (.int .i64 0)) (.c (.s (.string ⟨#[]⟩)) (.c (.s (.slice none 0 0)) .u)))))]⟩ (.op ⟨none, [(some 20, .ld (.t 19) 1 false)]⟩ (.op ⟨none, [(some 26, .bld (.c (.s (.int .i64 0)) (.c (.s (.int .i64 0)) (.c (.s (.string ⟨#[]⟩)) (.c (.s (.slice none 0 0)) .u)))) [(0, (.t 15)), (1, (.t 20)), (2, (.t 25))])]⟩ (.op ⟨none, [(none, .st (.t 6) (.t 26) 4)]⟩ .done)))))) (.op ⟨none, [(some 6, .new 49 (.c (.s (.int .i64 0)) (.c (.s (.int .i64 0)) (.c (.s (.string ⟨#[]⟩)) (.c (.s (.slice none 0 0)) .u)))))]⟩ (.or (.op ⟨none, [(some 20, .ld (.t 19) 1 false)]⟩ (.op ⟨none, [(some 25, .ld (.t 24) 1 false)]⟩ (.op ⟨none, [(some 26, .bld (.c (.s (.int .i64 0)) (.c (.s (.int .i64 0)) (.c (.s (.string ⟨#[]⟩)) (.c (.s (.slice none 0 0)) .u)))) [(0, (.t 15)), (1, (.t 20)), (2, (.t 25))])]⟩ (.op ⟨none, [(none, .st (.t 6) (.t 26) 4)]⟩ .done)))) (.op ⟨none, [(some 25, .ld (.t 24) 1 false)]⟩ (.op ⟨none, [(some 20, .ld (.t 19) 1 false)]⟩ (.op ⟨none, [(some 26, .bld (.c (.s (.int .i64 0)) (.c (.s (.int .i64 0)) (.c (.s (.string ⟨#[]⟩)) (.c (.s (.slice none 0 0)) .u)))) [(0, (.t 15)), (1, (.t 20)), (2, (.t 25))])]⟩ (.op ⟨none, [(none, .st (.t 6) (.t 26) 4)]⟩ .done))))))))))))))))) [4, 5, 6])
 c_tree_Tree_told_R3)))
theorem k_tree_Tree_told : Ok Tryz.prog 59 c_tree_Tree_told 53 [(2, 999999), (6, 999999)] [.cell 4 4 true] := Ok.mk' Tryz.func59 (by kernel_rfl) (by kernel_rfl) (by kernel_rfl)

abbrev f_tree_Tree_Nodes : Nat := 21
def c_tree_Tree_Nodes_L0 : Cd :=
 (.seq (.rg [⟨none, [(some 17, .bin .lss (.t 16) (.t 15))]⟩] [0, 3, 14, 15, 16, 17])
 (.seq (.ite (.t 17)
 .skip
 (.exit 0))
 (.seq (.block 1 (.seq (.rg [⟨none, [(some 18, .idxS (.t 14) (.t 16) 1), (some 19, .ld (.t 18) 1 false), (some 5, .mv (.t 19))]⟩] [0, 3, 5, 14, 15, 16])
 (.seq (.rg [⟨none, [(some 20, .mv (.t 0)), (some 21, .mv (.t 5)), (some 22, .call 59 [(.t 20), (.t 21)]), (some 6, .new 49 (.c (.s (.int .i64 0)) (.c (.s (.int .i64 0)) (.c (.s (.string ⟨#[]⟩)) (.c (.s (.slice none 0 0)) .u))))), (none, .st (.t 6) (.t 22) 4)]⟩] [0, 3, 5, 6, 14, 15, 16])
 (.seq (.rg [⟨none, [(some 23, .mv (.t 5)), (some 24, .call 60 [(.t 23)]), (some 25, .un .not (.t 24)), (some 26, .mv (.t 25))]⟩, ⟨some (26, false), [(some 27, .fldA (.t 6) 3 3), (some 28, .ld (.t 27) 1 false), (some 29, .len (.t 28)), (some 30, .bin .gtr (.t 29) (.c (.int .i64 0)))]⟩, ⟨none, [(some 31, .pick (.t 26) (.c (.bool true)) (.t 30))]⟩] [0, 3, 6, 14, 15, 16, 31])
 (.ite (.t 31)
 (.rg [⟨none, [(some 32, .mv (.t 3)), (some 33, .ld (.t 6) 4 true), (some 34, .bldS 49 4 (.c (.s (.int .i64 0)) (.c (.s (.int .i64 0)) (.c (.s (.string ⟨#[]⟩)) (.c (.s (.slice none 0 0)) .u)))) [(.t 33)]), (some 35, .app 49 4 56 (.c (.s (.int .i64 0)) (.c (.s (.int .i64 0)) (.c (.s (.string ⟨#[]⟩)) (.c (.s (.slice none 0 0)) .u)))) (.t 32) (.t 34)), (some 3, .mv (.t 35))]⟩] [0, 3, 14, 15, 16])
 .skip)))))
 (.rg [⟨none, [(some 36, .bin .add (.t 16) (.c (.int .i64 1))), (some 16, .mv (.t 36))]⟩] [0, 3, 14, 15, 16]))))
def c_tree_Tree_Nodes : Cd :=
 (.seq (.rg [⟨none, [(some 2, .mv (.c (.slice none 0 0)))]⟩] [0])
 (.seq (.seq (.rg [⟨none, [(some 7, .mv (.t 0)), (some 8, .call 56 [(.t 7)])]⟩] [0, 8])
 (.ite (.t 8)
 (.seq (.rg [⟨none, [(some 2, .mv (.c (.slice none 0 0)))]⟩] [2])
 .ret)
 .skip))
 (.seq (.rg [⟨none, [(some 3, .mv (.c (.slice none 0 0)))]⟩] [0, 3])
 (.seq (.seq (.rg [⟨none, [(none, .gh), (some 9, .mv (.t 0)), (some 10, .nilc (.t 9)), (some 11, .fldA (.t 10) 0 0), (some 12, .ld (.t 11) 1 false), (some 13, .call 58 [(.t 12)]), (some 14, .call 57 [(.t 13)]), (none, .gh), (some 15, .len (.t 14)), (some 16, .mv (.c (.int .i64 0)))]⟩] [0, 3, 14, 15, 16])
 (.block 0 (.loop c_tree_Tree_Nodes_L0)))
 (.seq (.rg [⟨none, [(some 37, .mv (.t 3)), (some 2, .mv (.t 37)), (none, .gh)]⟩] [2])
 .ret)))))
theorem k_tree_Tree_Nodes : Ok Tryz.prog 21 c_tree_Tree_Nodes 38 [] [.tmp 2] := Ok.mk' Tryz.func21 (by kernel_rfl) (by kernel_rfl) (by kernel_rfl)

end Go.Proofs.YtmjiojflncffeaaGreat.Vc

/- A node as it is told; all nodes. -/
set_option linter.unusedVariables false
set_option linter.unusedSimpArgs false
set_option maxRecDepth 100000
namespace Go.Proofs.YtmjiojflncffeaaGreat.Vc
open Go Go.Proofs

def attrKeys (x : PN) : List (List UInt8) := sortB (x.attrs.map fun p => p.1.data.toList)
def attrsOf (x : PN) : List Attr := (attrKeys x).map fun k => ⟨mkS k, (getS x.attrs (mkS k)).getD ⟨#[]⟩⟩
/-- No attribute is too great to be told. -/
def PN.small (x : PN) : Prop := x.attrs.length * 32 ≤ 140737488355328 ∧ ∀ p ∈ x.attrs, p.1.size ≤ 140737488355328

theorem told_spec (w : World) (u : PH) (hu : u.le w) (L : Lay) (T : PT) (hT : TM u L T) (n : Int) (x : PN) (hx : T.get n = some x) (hsm : x.small) :
    Spec Tryz.prog f_tree_Tree_told [ptr (L .t), .int .i64 n] PH.no w fun rs m' => ∃ v, rs = [gTreeNode ⟨n, x.parent, x.name, v⟩] ∧ SlO m' v 75 2 ((attrsOf x).map gAttr) := by
  refine spec_of k_tree_Tree_told [.g (.s (ptr (L .t))), .g (.s (.int .i64 n))] (by simp) (by simp [AV.ok, GV.ok, Value.oneCell', ptr]) ?_
  have hk : ∀ {l : List PH}, KN (⟨Tryz.prog, 53, w, PH.no⟩ : Ctx).u0 l u := kn_u hu
  obtain ⟨hs1, hs2⟩ := hsm
  have hkt : ((rawA x.attrs).map keyT) = x.attrs.map fun p => p.1.data.toList := by simp [rawA, keyT, Function.comp_def]
  have tail : ∀ σ : SS, Ge σ ⟨[(4, .ref 4 []), (5, .g (.s (.pointer (some ⟨L (.nd n), 0, none⟩)))), (6, .ref 6 [])], [(4, .box (gTreeNode zTreeNode)), (6, .box (gTreeNode ⟨n, x.parent, x.name, zTreeNode.attrs⟩))], [], PH.no⟩ →
      vc ⟨Tryz.prog, 53, w, PH.no⟩ c_tree_Tree_told_R3 (finQ ⟨Tryz.prog, 53, w, PH.no⟩ [.cell 4 4 true] fun rs m' => ∃ v, rs = [gTreeNode ⟨n, x.parent, x.name, v⟩] ∧ SlO m' v 75 2 ((attrsOf x).map gAttr)) σ := by
    intro σ hσ
    unfold c_tree_Tree_told_R3
    rw [vc_seq, vc_seq]
    refine vc_gh_of_ge hσ ?_
    simp (maxSteps := 2000000) only [vc_rg, segs_n, ops_cons, vcOp, ev, look, put_mk, Nat.reduceEqDiff, ↓reduceIte, Nat.zero_add]
    refine ld_of _ (hT.s_node hk hx).2.2.1 rfl ?_
    simp (maxSteps := 2000000) only [ops_cons, vcOp, put_mk]
    refine call_frzm rfl rfl (Q := KeysQ fKeysT1 (L (.ab n))) (fun w' vs hv hw _ _ => ?_) fun rs m1 _ hq => ?_
    · obtain ⟨vs, rfl, _, hv⟩ := argsV_g hv
      obtain rfl := argsV_nil hv
      exact keysT_spec w' (L (.ab n))
    obtain ⟨bm, e, rfl, hbm⟩ := hq
    simp (maxSteps := 2000000) only [retS, ops_cons, vcOp, put_mk]
    obtain ⟨o, idsV, h1, h2⟩ := hT.at (.ab n) ⟨x, hx⟩
    refine call_frzm rfl rfl (Q := fun rs m' => ∃ v, rs = [.s v] ∧ SlO m' v 9 1 ((attrKeys x).map gN)) (fun w' vs hv hw hph _ => ?_) fun rs m2 _ hq => ?_
    · obtain ⟨vs, rfl, _, hv⟩ := argsV_g hv
      obtain rfl := argsV_nil hv
      have hm1 := hph m1 (by simp)
      have := sortedT_spec w' (L (.ab n)) bm e (0, 0) o (rawA x.attrs) w'.ph (fun _ _ h => h) (hm1 _ _ hbm) (hw _ _ (by rw [u0_no]; exact hu _ _ h1)) (h2 x hx) (fun p hp => by
        obtain ⟨q, hq, rfl⟩ := List.mem_map.1 hp
        have := hs2 q hq
        simp only [keyT, Array.length_toList]
        unfold maxLen
        have e : q.1.data.size = q.1.size := rfl
        omega) (by simp [rawA]; omega)
      rw [hkt] at this
      exact this
    obtain ⟨v0, rfl, hv0⟩ := hq
    simp (maxSteps := 2000000) only [retS, ops_cons, vcOp, put_mk]
    refine gh_rk 32 32 (.s (.string ⟨#[]⟩)) rfl rfl hv0.toR (KN.mem (by simp)) ?_
    simp (maxSteps := 2000000) only [List.length_map, vc_block, thenQ_n, kKeep_eq, segs_nil, ops_nil, ops_cons, vcOp, ev, look, put_mk, keep_mk, keepL, Value.oneCell', cond_true, Nat.reduceEqDiff, ↓reduceIte, List.length_map, List.length_map]
    have hlen : (attrKeys x).length = x.attrs.length := by simp [attrKeys, sortB]
    have hlenA : (attrsOf x).length = (attrKeys x).length := by simp [attrsOf]
    refine vc_loop (ι := Nat × Value × PH) (fun q => ⟨[(4, .ref 4 []), (5, .g (.s (.pointer (some ⟨L (.nd n), 0, none⟩)))), (6, .ref 6 []), (32, .row 32 0 ((attrKeys x).length)), (33, .g (.s (.int .i64 ((attrKeys x).length)))), (34, .g (.s (.int .i64 (q.1))))], [(32, .ro 1 (.s (.string ⟨#[]⟩)) ((attrKeys x).map gN)), (4, .box (gTreeNode zTreeNode)), (6, .box (gTreeNode ⟨n, x.parent, x.name, q.2.1⟩))], [m2, m1], q.2.2⟩)
      (fun q => q.1 ≤ (attrKeys x).length ∧ SlO q.2.2 q.2.1 75 2 (((attrsOf x).take q.1).map gAttr)) (fun q => (attrKeys x).length - q.1) (0, .slice none 0 0, PH.no) ⟨by simp, ⟨fun x hx => by simp at hx, .inl ⟨rfl, by simp⟩⟩⟩ (ge_of ?_ ?_ rfl rfl rfl) ?_
    · simp [frIn, look]
    · simp [pvIn, look]; rfl
    rintro ⟨i, v, mA⟩ ⟨hi, hvA⟩
    simp only at hi hvA
    generalize hQ : loopQ _ _ _ _ _ = Q
    simp (maxSteps := 2000000) only [c_tree_Tree_told_L0, vc_skip, vc_exit, vc_seq, vc_block, vc_rg, vc_rga, vc_ite, thenQ_n, thenQ_e, kKeep_eq, segs_nil, segs_n, ops_nil, ops_cons, ot_op, ot_or, vcOp, ev, look, put_mk, keep_mk, keepL, rowE, rowD, binV, binC, GV.getT, Nat.reduceEqDiff, ↓reduceIte, List.nil_append, Nat.zero_add, Bool.true_and, Bool.not_false, true_and, Int.toNat_natCast, decide_eq_true_eq, decide_eq_false_iff_not, br_t, getT_nil, fits_s, gTreeNode_fld3, gTreeNode_get3, getD_gN]
    refine ⟨fun hlt => ⟨⟨by omega, by omega⟩, ?_⟩, fun hge => ?_⟩
    · have hta : ((attrsOf x).take (i + 1)).map gAttr = ((attrsOf x).take i).map gAttr ++ [gAttr ⟨mkS ((attrKeys x).getD i []), (getS x.attrs (mkS ((attrKeys x).getD i []))).getD ⟨#[]⟩⟩] := by
        rw [List.take_add_one, List.map_append]
        congr 1
        rw [attrsOf, List.getElem?_map, List.getD_eq_getElem?_getD, List.getElem?_eq_getElem (by omega)]
        rfl
      have hbd : (((((attrsOf x).take i).map gAttr)).length + 1) * 32 ≤ 140737488355328 := by
        rw [List.length_map, List.length_take]
        omega
      repeat' (first
        | (refine ld_of _ (hT.s_node hk hx).2.2.1 rfl ?_; simp (maxSteps := 2000000) only [gAttr_zero, segs_nil, segs_n, ops_nil, ops_cons, ot_op, ot_or, vcOp, ev, look, put_mk, GV.getT, Nat.reduceEqDiff, ↓reduceIte, Bool.true_and, Bool.not_false, true_and, fits_s, gTreeNode_get3])
        | (refine hT.lkA hk hx ?_; simp (maxSteps := 2000000) only [segs_nil, segs_n, ops_nil, ops_cons, ot_op, ot_or, vcOp, ev, evL, gvL, look, updL, put_mk, rowE, GV.getT, GV.same, Nat.reduceEqDiff, ↓reduceIte, Nat.zero_add, Bool.and_true, Bool.true_and, Bool.not_false, true_and, and_true, List.map_cons, List.map_nil, Option.map_some, szAll, List.length_cons, List.length_nil, List.drop_zero, List.take_succ_cons, List.take_zero, GV.bldT, GV.bldC, fits_s, gTreeNode_get3, gAttr_sz, gAttr_get0, gAttr_set0, gAttr_get1, gAttr_set1])
        | (refine app_of rfl rfl mA PH.no (((attrsOf x).take i).map gAttr) hvA (uni_no_r _).symm (dis_no_r _) hbd fun v' u' hv' hs' _ => ?_; simp (maxSteps := 2000000) only [uni_no_r, vc_rg, thenQ_n, blockQ_n, kKeep_eq, segs_nil, segs_n, ops_nil, ops_cons, ot_done, ot_op, vcOp, ev, look, updL, put_mk, put_mk0, keep_mk, keepL, binV, binC, GV.getT, GV.sz, GV.same, Value.oneCell', cond_true, Nat.reduceEqDiff, ↓reduceIte, List.nil_append, Bool.and_true, Bool.true_and, true_and, and_true, getT_nil, gTreeNode_fld3, gTreeNode_get3, gTreeNode_set3])
        | rfl
        | refine And.intro ?_ ?_)
      all_goals
        subst hQ; simp only [loopQ_n]; refine ⟨(i + 1, v', u'), ?_, ?_, ge_of ?_ ?_ rfl rfl rfl⟩
        · exact ⟨by simp only; omega, by simp only; rw [hta]; exact hs'⟩
        · simp only; omega
        · simp only [frIn, look, Nat.reduceEqDiff, ↓reduceIte, Bool.and_true, Bool.true_and, true_and, and_true]
          rw [wrap_n (by omega)]
          try simp
        · simp [pvIn, look]
    · subst hQ
      simp (maxSteps := 2000000) only [vc_ret, vc_seq, vc_rg, thenQ_n, blockQ_e, kKeep_eq, loopQ_e, finQ_r, segs_nil, segs_n, ops_nil, ops_cons, vcOp, ev, look, updL, put_mk, put_mk0, keep_mk, keepL, Nat.reduceEqDiff, ↓reduceIte, Bool.and_true, Bool.true_and, true_and, and_true, getT_nil, setT_nil, gTreeNode_sz, gTreeNode_fits, gTreeNode_same]
      have hfull : (attrsOf x).take i = attrsOf x := List.take_of_length_le (by omega)
      rw [hfull] at hvA
      exact fin_m (rs := [gTreeNode ⟨n, x.parent, x.name, v⟩]) _ rfl (fun _ _ h => h) ⟨v, rfl, hvA⟩
  simp (maxSteps := 2000000) only [c_tree_Tree_told, vc_seq, vc_rg, thenQ_n, kKeep_eq, segs_nil, segs_n, ops_nil, ops_cons, vcOp, ev, look, updL, put_mk, keep_mk, keepL, Nat.reduceEqDiff, ↓reduceIte, reduceCtorEq, Nat.zero_add, Nat.add_zero, Bool.true_and, true_and, initF, initP, gTreeNode_zero, ptr]
  refine ld_of _ (hT.s_map hk) rfl ?_
  simp (maxSteps := 2000000) only [ops_cons, vcOp, ev, look, put_mk, Nat.reduceEqDiff, ↓reduceIte, reduceCtorEq]
  refine hT.lk hk n ?_
  rw [hx]
  simp (maxSteps := 2000000) only [vc_seq, vc_rga, thenQ_n, kKeep_eq, segs_nil, segs_n, ops_nil, ops_cons, ot_op, ot_or, vcOp, ev, look, updL, put_mk, keep_mk, keepL, Nat.reduceEqDiff, ↓reduceIte, reduceCtorEq, Nat.zero_add, Nat.add_zero, Bool.true_and, true_and, nptr_some]
  repeat' (first
    | (refine ld_of _ (hT.s_node hk hx).1 rfl ?_; simp (maxSteps := 2000000) only [thenQ_n, kKeep_eq, segs_nil, segs_n, ops_nil, ops_cons, ot_done, ot_op, ot_or, vcOp, ev, evL, gvL, look, updL, put_mk, put_mk0, keep_mk, keepL, GV.getT, GV.same, Nat.reduceEqDiff, ↓reduceIte, Bool.and_true, Bool.true_and, true_and, and_true, List.map_cons, List.map_nil, Option.map_some, GV.bldT, GV.bldC, same_int, getT_nil, setT_nil, gTreeNode_sz, gTreeNode_same, gTreeNode_get0, gTreeNode_set0, gTreeNode_get1, gTreeNode_set1, gTreeNode_get2, gTreeNode_set2])
    | (refine ld_of _ (hT.s_node hk hx).2.1 rfl ?_; simp (maxSteps := 2000000) only [thenQ_n, kKeep_eq, segs_nil, segs_n, ops_nil, ops_cons, ot_done, ot_op, ot_or, vcOp, ev, evL, gvL, look, updL, put_mk, put_mk0, keep_mk, keepL, GV.getT, GV.same, Nat.reduceEqDiff, ↓reduceIte, Bool.and_true, Bool.true_and, true_and, and_true, List.map_cons, List.map_nil, Option.map_some, GV.bldT, GV.bldC, same_int, getT_nil, setT_nil, gTreeNode_sz, gTreeNode_same, gTreeNode_get0, gTreeNode_set0, gTreeNode_get1, gTreeNode_set1, gTreeNode_get2, gTreeNode_set2])
    | rfl
    | (refine tail _ (ge_of ?_ ?_ rfl rfl rfl); · simp [frIn, look]
       · simp [pvIn, look])
    | refine And.intro ?_ ?_)
end Go.Proofs.YtmjiojflncffeaaGreat.Vc

/- All nodes. -/
set_option linter.unusedVariables false
set_option linter.unusedSimpArgs false
set_option maxRecDepth 100000
namespace Go.Proofs.YtmjiojflncffeaaGreat.Vc
open Go Go.Proofs

/-- A node as it is told. -/
structure TN where
  node : Int
  parent : Int
  name : ByteArray
  attrs : List Attr
def toldOf (n : Int) (x : PN) : TN := ⟨n, x.parent, x.name, attrsOf x⟩
def nodesK (T : PT) : List Int := sortZ (T.nodes.map (·.1))
def TN.shown (t : TN) : Bool := !topB t.node || decide (t.attrs.length > 0)
def toldL (T : PT) (l : List Int) : List TN := (l.filterMap fun n => (T.get n).map fun x => toldOf n x).filter TN.shown
def nodesTold (T : PT) : List TN := toldL T (nodesK T)

def TsOk (m : PH) : List TreeNode → List TN → Prop
  | [], [] => True
  | t :: ts, a :: r => (t.node = a.node ∧ t.parent = a.parent ∧ t.name = a.name ∧ SlR m t.attrs 2 (a.attrs.map gAttr)) ∧ TsOk m ts r
  | _, _ => False
theorem TsOk.len {m : PH} : ∀ {ts : List TreeNode} {l : List TN}, TsOk m ts l → ts.length = l.length
  | [], [], _ => rfl
  | _ :: _, _ :: _, h => by simp [h.2.len]
  | [], _ :: _, h => h.elim
  | _ :: _, [], h => h.elim
theorem TsOk.up {m m' : PH} (hs : PH.sub m m') : ∀ {ts : List TreeNode} {l : List TN}, TsOk m ts l → TsOk m' ts l
  | [], [], _ => trivial
  | _ :: _, _ :: _, h => ⟨⟨h.1.1, h.1.2.1, h.1.2.2.1, h.1.2.2.2.up hs⟩, h.2.up hs⟩
  | [], _ :: _, h => h.elim
  | _ :: _, [], h => h.elim
theorem TsOk.snoc {m : PH} {t : TreeNode} {a : TN} (ht : t.node = a.node ∧ t.parent = a.parent ∧ t.name = a.name ∧ SlR m t.attrs 2 (a.attrs.map gAttr)) : ∀ {ts : List TreeNode} {l : List TN}, TsOk m ts l → TsOk m (ts ++ [t]) (l ++ [a])
  | [], [], _ => ⟨ht, trivial⟩
  | _ :: _, _ :: _, h => ⟨h.1, h.2.snoc ht⟩
  | [], _ :: _, h => h.elim
  | _ :: _, [], h => h.elim

/-- A tree that can be told. -/
structure PT.tells (T : PT) : Prop where
  few : T.nodes.length * 56 ≤ 140737488355328
  keys : ∀ n x, T.get n = some x → (Lit.int .i64 n).wf = true
  small : ∀ n x, T.get n = some x → x.small
theorem mem_nodesK {T : PT} {n : Int} (h : n ∈ nodesK T) : ∃ x, T.get n = some x := by
  have h1 : n ∈ T.nodes.map (·.1) := (List.mergeSort_perm _ _).mem_iff.1 h
  cases hg : T.get n with
  | none => exact absurd h1 (getA_none.1 hg)
  | some x => exact ⟨x, rfl⟩

theorem Nodes_spec (w : World) (u : PH) (hu : u.le w) (L : Lay) (T : PT) (hT : TM u L T) (hok : T.tells) :
    Spec Tryz.prog f_tree_Tree_Nodes [ptr (L .t)] PH.no w fun rs m' => ∃ v ts, rs = [.s v] ∧ SlR m' v 4 (ts.map gTreeNode) ∧ TsOk m' ts (nodesTold T) := by
  refine spec_of k_tree_Tree_Nodes [.g (.s (ptr (L .t)))] (by simp) (by simp [AV.ok, GV.ok, Value.oneCell', ptr]) ?_
  have hk : ∀ {l : List PH}, KN (⟨Tryz.prog, 38, w, PH.no⟩ : Ctx).u0 l u := kn_u hu
  have hkl : (nodesK T).length = T.nodes.length := by simp [nodesK, sortZ]
  have hfew := hok.few
  simp (maxSteps := 2000000) only [c_tree_Tree_Nodes, vc_seq, vc_rg, thenQ_n, kKeep_eq, segs_nil, segs_n, ops_nil, ops_cons, vcOp, ev, look, put_mk, keep_mk, keepL, Value.oneCell', cond_true, ↓reduceIte, reduceCtorEq, initF, initP, ptr]
  refine call_is _ [.s (.bool false)] rfl rfl (fun w' vs hv hw => ?_) ?_
  · obtain ⟨vs, rfl, _, hv⟩ := argsV_g hv
    obtain rfl := argsV_nil hv
    intro _
    exact none_spec (fun b o h => hw b o (by rw [u0_no]; exact hu b o h)) hT
  simp (maxSteps := 2000000) only [retS, vc_skip, vc_seq, vc_rg, vc_ite, thenQ_n, kKeep_eq, segs_nil, segs_n, ops_nil, ops_cons, vcOp, ev, look, put_mk, keep_mk, keepL, Value.oneCell', cond_true, ↓reduceIte, reduceCtorEq, ↓br_ft]
  refine gh_nil 3 3 49 4 (gTreeNode zTreeNode) rfl rfl ?_
  simp (maxSteps := 2000000) only [ops_cons, vcOp, ev, look, put_mk, ↓reduceIte, reduceCtorEq, Nat.add_zero]
  refine ld_of _ (hT.s_map hk) rfl ?_
  simp (maxSteps := 2000000) only [ops_cons, vcOp, put_mk]
  refine call_frzm rfl rfl (Q := KeysQ fKeysI1 (L .nb)) (fun w' vs hv hw _ _ => ?_) fun rs m1 _ hq => ?_
  · obtain ⟨vs, rfl, _, hv⟩ := argsV_g hv
    obtain rfl := argsV_nil hv
    exact keysI_spec w' (L .nb)
  obtain ⟨bm, e, rfl, hbm⟩ := hq
  simp (maxSteps := 2000000) only [retS, ops_cons, vcOp, put_mk]
  obtain ⟨o, idsV, h1, h2⟩ := hT.at .nb trivial
  have hkeys : (rawN L T.nodes).map keyI = T.nodes.map (·.1) := by simp [rawN, keyI, Function.comp_def]
  refine call_frzm rfl rfl (Q := fun rs m' => ∃ v, rs = [.s v] ∧ SlO m' v 2 1 ((nodesK T).map gi)) (fun w' vs hv hw hph _ => ?_) fun rs m2 _ hq => ?_
  · obtain ⟨vs, rfl, _, hv⟩ := argsV_g hv
    obtain rfl := argsV_nil hv
    have hm1 := hph m1 (by simp)
    have := sortedI_spec w' (L .nb) bm e (0, 0) o (rawN L T.nodes) w'.ph (fun _ _ h => h) (hm1 _ _ hbm) (hw _ _ (by rw [u0_no]; exact hu _ _ h1)) h2 (fun p hp => by
      obtain ⟨q, hq, rfl⟩ := List.mem_map.1 hp
      exact hok.keys q.1 q.2 (getA_of_mem hT.nod hq)) (by simp [rawN]; omega)
    rw [hkeys] at this
    exact this
  obtain ⟨v0, rfl, hv0⟩ := hq
  simp (maxSteps := 2000000) only [retS, ops_cons, vcOp, put_mk]
  refine gh_rk 14 14 (gi 0) rfl rfl hv0.toR (KN.mem (by simp)) ?_
  simp (maxSteps := 2000000) only [List.length_map, vc_block, thenQ_n, kKeep_eq, segs_nil, ops_nil, ops_cons, vcOp, ev, look, put_mk, keep_mk, keepL, Value.oneCell', cond_true, Nat.reduceEqDiff, ↓reduceIte, reduceCtorEq, List.length_map, List.length_map]
  refine vc_loop (ι := Nat × List TreeNode × PH) (fun q => ⟨[(0, .g (.s (.pointer (some ⟨L .t, 0, none⟩)))), (14, .row 14 0 ((nodesK T).length)), (15, .g (.s (.int .i64 ((nodesK T).length)))), (16, .g (.s (.int .i64 (q.1)))), (3, .row 3 0 (q.2.1.length))], [(14, .ro 1 (gi 0) ((nodesK T).map gi)), (3, .row 49 4 (gTreeNode zTreeNode) (q.2.1.map gTreeNode))], [m2, m1], q.2.2⟩)
    (fun q => q.1 ≤ (nodesK T).length ∧ q.2.1.length ≤ q.1 ∧ TsOk q.2.2 q.2.1 (toldL T ((nodesK T).take q.1))) (fun q => (nodesK T).length - q.1) (0, [], PH.no) ⟨by simp, by simp, trivial⟩ (ge_of ?_ ?_ rfl rfl rfl) ?_
  · simp [frIn, look]
  · simp [pvIn, look]
  rintro ⟨i, ts, mA⟩ ⟨hi, htl, hts⟩
  simp only at hi htl hts
  generalize hQ : loopQ _ _ _ _ _ = Q
  simp (maxSteps := 2000000) only [c_tree_Tree_Nodes_L0, getD_gi, vc_skip, vc_exit, vc_seq, vc_block, vc_rg, vc_ite, thenQ_n, thenQ_e, kKeep_eq, segs_nil, segs_n, ops_nil, ops_cons, vcOp, ev, look, put_mk, keep_mk, keepL, rowE, rowD, binV, binC, Nat.reduceEqDiff, ↓reduceIte, reduceCtorEq, Nat.zero_add, Bool.true_and, Bool.not_false, true_and, Int.toNat_natCast, decide_eq_true_eq, decide_eq_false_iff_not, br_t, getT_nil, getD_gi, fits_s, gTreeNode_zero]
  refine ⟨fun hlt => ⟨⟨by omega, by omega⟩, ?_⟩, fun hge => ?_⟩
  · obtain ⟨n, hn⟩ : ∃ n, (nodesK T).getD i 0 = n := ⟨_, rfl⟩
    have hmem : n ∈ nodesK T := by rw [← hn, List.getD_eq_getElem?_getD, List.getElem?_eq_getElem (by omega)]; exact List.getElem_mem _
    obtain ⟨x, hx⟩ := mem_nodesK hmem
    rw [hn]
    have hstep : toldL T ((nodesK T).take (i + 1)) = toldL T ((nodesK T).take i) ++ if (toldOf n x).shown = true then [toldOf n x] else [] := by
      rw [List.take_add_one]
      have e : (nodesK T)[i]?.toList = [n] := by
        rw [← hn, List.getD_eq_getElem?_getD, List.getElem?_eq_getElem (by omega)]; rfl
      rw [e]
      unfold toldL
      rw [List.filterMap_append, List.filter_append]
      congr 1
      simp only [List.filterMap_cons, hx, Option.map_some, List.filterMap_nil, List.filter_cons, List.filter_nil]
    refine call_ownm rfl rfl (Q := fun rs m' => ∃ v, rs = [gTreeNode ⟨n, x.parent, x.name, v⟩] ∧ SlO m' v 75 2 ((attrsOf x).map gAttr)) (fun w' vs hv hw _ _ => ?_) fun rs m3 _ hq hd3 => ?_
    · obtain ⟨vs, rfl, _, hv⟩ := argsV_g hv
      obtain ⟨vs, rfl, _, hv⟩ := argsV_g hv
      obtain rfl := argsV_nil hv
      exact told_spec w' u (fun b o h => hw b o (by rw [u0_no]; exact hu b o h)) L T hT n x hx (hok.small n x hx)
    obtain ⟨v, rfl, hv⟩ := hq
    obtain ⟨a, c, rfl⟩ : ∃ a c, v = .slice a (attrsOf x).length c := by
      rcases hv.2 with ⟨rfl, h3⟩ | ⟨ad, c, rfl, _⟩
      · have : attrsOf x = [] := by simpa using h3
        exact ⟨none, 0, by rw [this]; rfl⟩
      · exact ⟨some ad, c, by rw [List.length_map]⟩
    simp (maxSteps := 2000000) only [retS, vc_seq, vc_rg, thenQ_n, kKeep_eq, segs_nil, segs_n, ops_nil, ops_cons, vcOp, ev, look, updL, put_mk, put_mk0, keep_mk, keepL, Nat.reduceEqDiff, ↓reduceIte, reduceCtorEq, Bool.and_true, Bool.true_and, true_and, and_true, getT_nil, setT_nil, gTreeNode_sz, gTreeNode_same]
    refine call_fnv (top_fn n) rfl rfl rfl fun _ => ?_
    simp (maxSteps := 2000000) only [retS, vc_skip, vc_rg, vc_ite, thenQ_n, blockQ_n, kKeep_eq, segs_nil, segs_n, segs_g, ops_nil, ops_cons, vcOp, RO.isGh, skip_mk, skipL, ev, evL, gvL, look, updL, put_mk, keep_mk, keepL, rowE, binV, binC, unV, GV.getT, Value.oneCell', cond_true, cond_false, Nat.reduceEqDiff, Nat.reduceBEq, ↓reduceIte, reduceCtorEq, List.nil_append, Nat.zero_add, Bool.and_true, Bool.true_and, Bool.not_false, BEq.rfl, true_and, and_true, Option.map_some, szAll, List.length_cons, List.length_nil, decide_eq_true_eq, decide_eq_false_iff_not, kill, SV.mentions, ne_eq, not_false_eq_true, List.drop_zero, List.take_succ_cons, List.take_zero, ↓br_tt, ↓br_ft, br_t, br_f, getT_nil, List.length_map, fits_s, gTreeNode_sz, gTreeNode_fits, gTreeNode_fld3, gTreeNode_get3, List.length_map]
    have hup : TsOk (uni m3 mA) ts (toldL T ((nodesK T).take i)) := hts.up (sub_uni_r hd3)
    have hnew : TsOk (uni m3 mA) (ts ++ [⟨n, x.parent, x.name, .slice a (attrsOf x).length c⟩]) (toldL T ((nodesK T).take i) ++ [toldOf n x]) := hup.snoc ⟨rfl, rfl, rfl, hv.toR.up (sub_uni_l m3 mA)⟩
    have goS : (toldOf n x).shown = true → ∀ (fr : List (Nat × SV)) (pv : List (Nat × PV)), frIn fr [(0, .g (.s (.pointer (some ⟨L .t, 0, none⟩)))), (14, .row 14 0 ((nodesK T).length)), (15, .g (.s (.int .i64 ((nodesK T).length)))), (16, .g (.s (.int .i64 ((i + 1 : Nat))))), (3, .row 3 0 (ts.length + 1))] →
        pvIn pv [(14, .ro 1 (gi 0) ((nodesK T).map gi)), (3, .row 49 4 (gTreeNode zTreeNode) (ts.map gTreeNode ++ [gTreeNode ⟨n, x.parent, x.name, .slice a (attrsOf x).length c⟩]))] → Q .normal ⟨fr, pv, [m2, m1], uni m3 mA⟩ := by
      intro hs fr pv hfr hpv
      subst hQ; simp only [loopQ_n]
      refine ⟨(i + 1, ts ++ [⟨n, x.parent, x.name, .slice a (attrsOf x).length c⟩], uni m3 mA), ⟨by simp only; omega, by simp; omega, ?_⟩, ?_, ge_of ?_ ?_ rfl rfl rfl⟩
      · simp only; rw [hstep, if_pos hs]; exact hnew
      · simp only; omega
      · simpa using hfr
      · simpa using hpv
    have goN : (toldOf n x).shown = false → ∀ (fr : List (Nat × SV)) (pv : List (Nat × PV)), frIn fr [(0, .g (.s (.pointer (some ⟨L .t, 0, none⟩)))), (14, .row 14 0 ((nodesK T).length)), (15, .g (.s (.int .i64 ((nodesK T).length)))), (16, .g (.s (.int .i64 ((i + 1 : Nat))))), (3, .row 3 0 (ts.length))] →
        pvIn pv [(14, .ro 1 (gi 0) ((nodesK T).map gi)), (3, .row 49 4 (gTreeNode zTreeNode) (ts.map gTreeNode))] → Q .normal ⟨fr, pv, [m2, m1], uni m3 mA⟩ := by
      intro hs fr pv hfr hpv
      subst hQ; simp only [loopQ_n]
      refine ⟨(i + 1, ts, uni m3 mA), ⟨by simp only; omega, by simp only; omega, ?_⟩, ?_, ge_of hfr hpv rfl rfl rfl⟩
      · simp only; rw [hstep, hs]; simpa using hup
      · simp only; omega
    have hlA : (attrsOf x).length = (toldOf n x).attrs.length := rfl
    have hnn : n = (toldOf n x).node := rfl
    refine ⟨fun ht => ⟨fun hl => ⟨by omega, goS ?_ _ _ ?_ ?_⟩, fun hl => goN ?_ _ _ ?_ ?_⟩, fun ht => ⟨by omega, goS ?_ _ _ ?_ ?_⟩⟩
    · rw [TN.shown, topB, ← hnn, ← hlA, decide_eq_true (by omega)]; simp
    · simp only [frIn, look, Nat.reduceEqDiff, ↓reduceIte, reduceCtorEq, Bool.and_true, Bool.true_and, true_and, and_true]
      rw [wrap_n (by omega)]
      try simp
    · simp [pvIn, look]
    · rw [TN.shown, topB, ← hnn, ← hlA, ht, decide_eq_false (by omega)]; rfl
    · simp only [frIn, look, Nat.reduceEqDiff, ↓reduceIte, reduceCtorEq, Bool.and_true, Bool.true_and, true_and, and_true]
      rw [wrap_n (by omega)]
      try simp
    · simp [pvIn, look]
    · rw [TN.shown, topB, ← hnn, ht]; rfl
    · simp only [frIn, look, Nat.reduceEqDiff, ↓reduceIte, reduceCtorEq, Bool.and_true, Bool.true_and, true_and, and_true]
      rw [wrap_n (by omega)]
      try simp
    · simp [pvIn, look]
  · subst hQ
    simp (maxSteps := 2000000) only [vc_seq, vc_rg, thenQ_n, blockQ_e, loopQ_e, segs_n, ops_cons, vcOp, ev, look, put_mk, ↓reduceIte, reduceCtorEq]
    refine gh_pub 2 3 ts.length rfl rfl (by simp) fun v m5 hv5 ho5 hd5 => ?_
    simp (maxSteps := 2000000) only [vc_ret, thenQ_n, kKeep_eq, finQ_r, segs_nil, ops_nil, look, keep_mk, keepL, cond_true, cond_false, Nat.reduceBEq, ↓reduceIte, BEq.rfl, kill, SV.mentions]
    have hfull : (nodesK T).take i = nodesK T := List.take_of_length_le (by omega)
    rw [hfull] at hts
    exact fin_m (rs := [.s v]) _ rfl (fun _ _ h => h) ⟨v, ts, rfl, ho5.toR.up (sub_uni_l _ _), hts.up (sub_uni_r hd5)⟩
end Go.Proofs.YtmjiojflncffeaaGreat.Vc

/- Are two lists of nodes the same? -/
set_option linter.unusedVariables false
set_option linter.unusedSimpArgs false
set_option maxRecDepth 100000
namespace Go.Proofs.YtmjiojflncffeaaGreat.Vc
open Go Go.Proofs

deriving instance DecidableEq for Attr, TN

theorem gAttr_kin (a : Attr) : kin (gAttr a) (gAttr zAttr) := ⟨trivial, trivial, trivial⟩
theorem eqGV_attr (a b : Attr) : eqGV (gAttr a) (gAttr b) = decide (a = b) := by
  obtain ⟨k1, v1⟩ := a
  obtain ⟨k2, v2⟩ := b
  simp only [eqGV, gAttr, eqScB, Bool.and_true]
  by_cases h1 : k1 = k2
  · by_cases h2 : v1 = v2
    · simp [h1, h2]
    · simp [h1, h2]
  · simp [h1]
theorem eqG_attr (a b : Attr) : EqG Tryz.prog 75 (gAttr a) (gAttr b) (decide (a = b)) := by
  rw [← eqGV_attr]
  exact eqG_of (z := gAttr zAttr) (by kernel_rfl) (by kernel_rfl) rfl (gAttr_kin a) (gAttr_kin b) (gAttr_ok a) (gAttr_ok b)

def zTN : TN := ⟨0, 0, ⟨#[]⟩, []⟩
theorem TsOk.at {m : PH} : ∀ {ts : List TreeNode} {l : List TN} (i : Nat), TsOk m ts l → i < ts.length → (ts.getD i zTreeNode).node = (l.getD i zTN).node ∧ (ts.getD i zTreeNode).parent = (l.getD i zTN).parent ∧ (ts.getD i zTreeNode).name = (l.getD i zTN).name ∧ SlR m (ts.getD i zTreeNode).attrs 2 ((l.getD i zTN).attrs.map gAttr)
  | _ :: _, _ :: _, 0, h, _ => h.1
  | _ :: ts, _ :: l, i + 1, h, hi => by simpa using TsOk.at (ts := ts) (l := l) i h.2 (by simpa using hi)
  | [], [], i, _, hi => by simp at hi
  | [], _ :: _, _, h, _ => h.elim
  | _ :: _, [], _, h, _ => h.elim

end Go.Proofs.YtmjiojflncffeaaGreat.Vc

/- What is done is taken back: plain. -/
set_option linter.unusedVariables false
set_option linter.unusedSimpArgs false
namespace Go.Proofs.YtmjiojflncffeaaGreat.Vc
open Go

theorem getS_put (y : ByteArray) : ∀ (l : List (ByteArray × ByteArray)) (k j : ByteArray), getS (putS l k y) j = if j = k then some y else getS l j
  | [], k, j => by
    by_cases h : k = j
    · subst h; simp [getS, putS]
    · simp [getS, putS, h, Ne.symm h]
  | (a, b) :: l, k, j => by
    by_cases h1 : a = k
    · subst h1
      by_cases h2 : a = j
      · subst h2; simp [getS, putS]
      · simp [getS, putS, h2, Ne.symm h2]
    · by_cases h2 : a = j
      · subst h2; simp [getS, putS, h1]
      · simp [getS, putS, h1, h2, getS_put y l k j]
theorem getS_none {l : List (ByteArray × ByteArray)} {j : ByteArray} : getS l j = none ↔ j ∉ l.map (·.1) := by
  induction l with
  | nil => simp [getS]
  | cons p l ih =>
    obtain ⟨k, x⟩ := p
    by_cases hk : k = j
    · simp [getS, hk]
    · simp only [getS, hk, if_false, List.map_cons, List.mem_cons, not_or, ih]
      exact ⟨fun h => ⟨fun e => hk e.symm, h⟩, fun h => h.2⟩
theorem getS_mem : ∀ {l : List (ByteArray × ByteArray)} {j x : ByteArray}, getS l j = some x → (j, x) ∈ l
  | [], j, x, h => by simp [getS] at h
  | (k, y) :: l, j, x, h => by
    by_cases hk : k = j
    · simp [getS, hk] at h; subst h; subst hk; simp
    · simp [getS, hk] at h; exact List.mem_cons_of_mem _ (getS_mem h)
theorem getS_del {l : List (ByteArray × ByteArray)} (hn : (l.map (·.1)).Nodup) (k j : ByteArray) : getS (delS l k) j = if j = k then none else getS l j := by
  induction l with
  | nil => simp [getS, delS]
  | cons p l ih =>
    obtain ⟨a, y⟩ := p
    simp only [List.map_cons, List.nodup_cons] at hn
    by_cases h1 : a = k
    · subst h1
      by_cases h2 : j = a
      · subst h2; simp only [delS, if_true]; exact getS_none.2 hn.1
      · simp [delS, getS, h2, Ne.symm h2]
    · by_cases h2 : a = j
      · subst h2; simp [delS, getS, h1]
      · simp [delS, getS, h1, h2, ih hn.2]
theorem keys_delS : ∀ (l : List (ByteArray × ByteArray)) (n : ByteArray), ((delS l n).map (·.1)).Sublist (l.map (·.1))
  | [], n => List.Sublist.refl _
  | (k, x) :: l, n => by
    by_cases h1 : k = n
    · rw [delS, if_pos h1]; exact List.sublist_cons_self _ _
    · rw [delS, if_neg h1]; exact (keys_delS l n).cons_cons _
theorem mem_putS (y : ByteArray) : ∀ (l : List (ByteArray × ByteArray)) (n j : ByteArray), j ∈ (putS l n y).map (·.1) ↔ j = n ∨ j ∈ l.map (·.1)
  | [], n, j => by simp [putS]
  | (k, x) :: l, n, j => by
    by_cases h1 : k = n
    · subst h1; simp [putS]
    · have ih := mem_putS y l n j
      rw [putS, if_neg h1, List.map_cons, List.mem_cons, ih, List.map_cons, List.mem_cons]
      constructor
      · rintro (h | h | h)
        · exact .inr (.inl h)
        · exact .inl h
        · exact .inr (.inr h)
      · rintro (h | h | h)
        · exact .inr (.inl h)
        · exact .inl h
        · exact .inr (.inr h)
theorem nod_putS (y : ByteArray) : ∀ (l : List (ByteArray × ByteArray)) (n : ByteArray), (l.map (·.1)).Nodup → ((putS l n y).map (·.1)).Nodup
  | [], n, _ => by simp [putS]
  | (k, x) :: l, n, h => by
    rw [List.map_cons, List.nodup_cons] at h
    by_cases h1 : k = n
    · subst h1; rw [putS, if_pos rfl, List.map_cons, List.nodup_cons]; exact h
    · rw [putS, if_neg h1, List.map_cons, List.nodup_cons]
      refine ⟨fun hm => ?_, nod_putS y l n h.2⟩
      rcases (mem_putS y l n k).1 hm with h2 | h2
      · exact h1 h2
      · exact h.1 h2
theorem len_putS (y : ByteArray) : ∀ (l : List (ByteArray × ByteArray)) (n : ByteArray), (putS l n y).length ≤ l.length + 1
  | [], n => by simp [putS]
  | (k, x) :: l, n => by
    by_cases h1 : k = n
    · simp [putS, h1]
    · have := len_putS y l n
      simp only [putS, h1, if_false, List.length_cons]; omega

def empty : ByteArray := ⟨#[]⟩
/-- Attributes as they may be. -/
structure AttrOk (l : List (ByteArray × ByteArray)) : Prop where
  nod : (l.map (·.1)).Nodup
  val : ∀ k v, getS l k = some v → v ≠ empty
  key : ∀ k ∈ l.map (·.1), k.size ≤ 255
theorem AttrOk.nil : AttrOk [] := ⟨by simp, fun k v h => by simp [getS] at h, by simp⟩
def setS (l : List (ByteArray × ByteArray)) (k v : ByteArray) : List (ByteArray × ByteArray) := if v = ⟨#[]⟩ then delS l k else putS l k v
theorem getS_set {l : List (ByteArray × ByteArray)} (h : AttrOk l) (k v j : ByteArray) : getS (setS l k v) j = if j = k then (if v = empty then none else some v) else getS l j := by
  unfold setS
  by_cases hv : v = ⟨#[]⟩
  · rw [if_pos hv, getS_del h.nod, if_pos (show v = empty from hv)]
  · rw [if_neg hv, getS_put, if_neg (show ¬ v = empty from hv)]
theorem AttrOk.set {l : List (ByteArray × ByteArray)} (h : AttrOk l) {k v : ByteArray} (hk : k.size ≤ 255) : AttrOk (setS l k v) := by
  refine ⟨?_, fun j w hw => ?_, fun j hj => ?_⟩
  · unfold setS
    split
    · exact (keys_delS l k).nodup h.nod
    · exact nod_putS v l k h.nod
  · rw [getS_set h] at hw
    split at hw
    · split at hw
      · cases hw
      · rename_i hv; cases hw; exact hv
    · exact h.val j w hw
  · unfold setS at hj
    split at hj
    · exact h.key j ((keys_delS l k).subset hj)
    · rcases (mem_putS v l k j).1 hj with h1 | h1
      · subst h1; exact hk
      · exact h.key j h1
theorem len_set (l : List (ByteArray × ByteArray)) (k v : ByteArray) : (setS l k v).length ≤ l.length + 1 := by
  unfold setS
  split
  · have := (keys_delS l k).length_le
    simp at this; omega
  · exact len_putS v l k

/-- What is seen of a tree. -/
structure AN where
  parent : Int
  name : ByteArray
  attr : ByteArray → Option ByteArray
def PN.view (x : PN) : AN := ⟨x.parent, x.name, getS x.attrs⟩
def PT.view (T : PT) (n : Int) : Option AN := (T.get n).map PN.view

structure PT.ok (T : PT) (k : Nat) : Prop where
  nod : (T.nodes.map (·.1)).Nodup
  many : T.nodes.length ≤ k + 2
  last0 : 0 ≤ T.last
  lastk : T.last ≤ k
  ids : T.ids.length ≤ k
  keys : ∀ n x, T.get n = some x → (Lit.int .i64 n).wf = true
  attrs : ∀ n x, T.get n = some x → AttrOk x.attrs ∧ x.attrs.length ≤ k
theorem PT.ok.up {T : PT} {k k' : Nat} (h : T.ok k) (hk : k ≤ k') : T.ok k' :=
  ⟨h.nod, by have := h.many; omega, h.last0, by have := h.lastk; omega, by have := h.ids; omega, h.keys, fun n x hx => ⟨(h.attrs n x hx).1, by have := (h.attrs n x hx).2; omega⟩⟩

theorem view_mod {T : PT} {n : Int} {f : PN → PN} (hf : ∀ x, (f x).view = x.view) : (T.mod n f).view = T.view := by
  funext j
  unfold PT.view
  rw [PT.get_mod]
  split
  · cases T.get j <;> simp [hf]
  · rfl
theorem ok_mod {T : PT} {n : Int} {f : PN → PN} {k k' : Nat} (h : T.ok k) (hk : k ≤ k') (hf : ∀ x, AttrOk x.attrs ∧ x.attrs.length ≤ k → AttrOk (f x).attrs ∧ (f x).attrs.length ≤ k') : (T.mod n f).ok k' := by
  have hlen : (T.mod n f).nodes.length = T.nodes.length := by
    have := congrArg List.length (keys_mod f T.nodes n)
    simpa [PT.mod] using this
  refine ⟨by rw [PT.mod, keys_mod]; exact h.nod, by rw [hlen]; have := h.many; omega, h.last0, by have := h.lastk; show T.last ≤ _; omega, by have := h.ids; show T.ids.length ≤ _; omega, fun j x hx => ?_, fun j x hx => ?_⟩
  · rw [PT.get_mod] at hx
    split at hx
    · cases hg : T.get j with
      | none => rw [hg] at hx; cases hx
      | some y => exact h.keys j y hg
    · exact h.keys j x hx
  · rw [PT.get_mod] at hx
    split at hx
    · cases hg : T.get j with
      | none => rw [hg] at hx; cases hx
      | some y =>
        rw [hg] at hx; cases hx
        exact hf y (h.attrs j y hg)
    · obtain ⟨h1, h2⟩ := h.attrs j x hx
      exact ⟨h1, by omega⟩
end Go.Proofs.YtmjiojflncffeaaGreat.Vc

/- What is done is taken back: plain, the steps. -/
set_option linter.unusedVariables false
set_option linter.unusedSimpArgs false
namespace Go.Proofs.YtmjiojflncffeaaGreat.Vc
open Go

def updV (v : Int → Option AN) (n : Int) (a : Option AN) : Int → Option AN := fun j => if j = n then a else v j
theorem updV_updV (v : Int → Option AN) (n : Int) (a b : Option AN) : updV (updV v n a) n b = updV v n b := by
  funext j; unfold updV; split <;> rfl
theorem updV_self {v : Int → Option AN} {n : Int} {a : Option AN} (h : v n = a) : updV v n a = v := by
  funext j; unfold updV
  split
  · rename_i e; rw [e, h]
  · rfl

theorem PT.view_get {T : PT} {n : Int} {x : PN} (h : T.get n = some x) : T.view n = some x.view := by unfold PT.view; rw [h]; rfl
theorem PT.view_none {T : PT} {n : Int} : T.view n = none ↔ T.get n = none := by
  unfold PT.view; cases T.get n <;> simp
theorem get_of_view {T : PT} {n : Int} {a : AN} (h : T.view n = some a) : ∃ x, T.get n = some x ∧ x.view = a := by
  unfold PT.view at h
  cases hg : T.get n with
  | none => rw [hg] at h; cases h
  | some x => rw [hg] at h; exact ⟨x, rfl, by simpa using h⟩

/-! ### put -/
theorem put_view {T : PT} {n : Int} {p : Place} {x : PN} (hx : T.get n = some x) : (T.put n p).view = updV T.view n (some ⟨p.parent, p.name, getS x.attrs⟩) := by
  unfold PT.put
  rw [hx]
  simp only
  rw [show (((T.unkid x.parent n).place n p.parent p.name).kid p.parent n).view = ((T.unkid x.parent n).place n p.parent p.name).view from view_mod fun _ => rfl]
  funext j
  unfold updV
  by_cases hj : j = n
  · subst hj
    obtain ⟨x1, hx1, he⟩ : ∃ x1, (T.unkid x.parent j).get j = some x1 ∧ x1.attrs = x.attrs := by
      rw [get_unkid, hx]
      split <;> exact ⟨_, rfl, rfl⟩
    have h1 : ((T.unkid x.parent j).place j p.parent p.name).get j = some { x1 with parent := p.parent, name := p.name } := by rw [get_place, if_pos rfl, hx1]; rfl
    rw [PT.view_get h1, if_pos rfl]
    simp [PN.view, he]
  · rw [if_neg hj]
    have h1 : ((T.unkid x.parent n).place n p.parent p.name).get j = (T.unkid x.parent n).get j := by rw [get_place, if_neg hj]
    have h2 : (T.unkid x.parent n).view = T.view := view_mod fun _ => rfl
    rw [← h2]
    unfold PT.view
    rw [h1]
theorem put_ok {T : PT} {n : Int} {p : Place} {k : Nat} (h : T.ok k) : (T.put n p).ok k := by
  unfold PT.put
  cases T.get n with
  | none => exact h
  | some x => exact ok_mod (ok_mod (ok_mod h (Nat.le_refl _) fun x hx => hx) (Nat.le_refl _) fun x hx => hx) (Nat.le_refl _) fun x hx => hx
theorem put_last (T : PT) (n : Int) (p : Place) : (T.put n p).last = T.last := by
  unfold PT.put
  cases T.get n <;> rfl
theorem put_len (T : PT) (n : Int) (p : Place) : (T.put n p).nodes.length = T.nodes.length := by
  have hm : ∀ (T : PT) (k : Int) (f : PN → PN), (T.mod k f).nodes.length = T.nodes.length := fun T k f => by
    have := congrArg List.length (keys_mod f T.nodes k)
    simpa [PT.mod] using this
  unfold PT.put
  cases T.get n with
  | none => rfl
  | some x => simp only [PT.kid, PT.place, PT.unkid, hm]

/-! ### add, del, attr -/
theorem add_view {T : PT} {n : Int} (hn : T.get n = none) : (T.add n).view = updV T.view n (some PN.bare.view) := by
  funext j
  unfold updV PT.view
  rw [PT.get_add hn]
  split <;> rfl
theorem add_ok {T : PT} {n : Int} {k : Nat} (h : T.ok k) (hn : T.get n = none) (hw : (Lit.int .i64 n).wf = true) : (T.add n).ok (k + 1) := by
  refine ⟨?_, by have := h.many; simp [PT.add]; omega, h.last0, by have := h.lastk; show T.last ≤ _; omega, by have := h.ids; show T.ids.length ≤ _; omega, fun j x hx => ?_, fun j x hx => ?_⟩
  · show ((T.nodes ++ [(n, PN.bare)]).map (·.1)).Nodup
    rw [List.map_append, List.nodup_append]
    refine ⟨h.nod, by simp, fun x hx y hy => ?_⟩
    simp only [List.map_cons, List.map_nil, List.mem_singleton] at hy
    subst hy
    exact fun e => (getA_none.1 hn) (e ▸ hx)
  · rw [PT.get_add hn] at hx
    split at hx
    · rename_i e; rw [e]; exact hw
    · exact h.keys j x hx
  · rw [PT.get_add hn] at hx
    split at hx
    · cases hx; exact ⟨AttrOk.nil, by simp [PN.bare]⟩
    · obtain ⟨h1, h2⟩ := h.attrs j x hx
      exact ⟨h1, by omega⟩
theorem get_del {T : PT} (hn : (T.nodes.map (·.1)).Nodup) (n j : Int) : (T.del n).get j = if j = n then none else T.get j := getA_del hn n j
theorem del_view {T : PT} {n : Int} (hn : (T.nodes.map (·.1)).Nodup) : (T.del n).view = updV T.view n none := by
  funext j
  unfold updV PT.view
  rw [get_del hn]
  split <;> rfl
theorem del_ok {T : PT} {n : Int} {k : Nat} (h : T.ok k) : (T.del n).ok k := by
  have hl : (T.del n).nodes.length ≤ T.nodes.length := by
    have := congrArg List.length (keys_del T.nodes n)
    have h2 := List.length_erase_le (a := n) (l := T.nodes.map (·.1))
    simp only [List.length_map] at this h2
    show (delA T.nodes n).length ≤ _
    omega
  refine ⟨by show ((delA T.nodes n).map (·.1)).Nodup; rw [keys_del]; exact h.nod.erase _, by have := h.many; omega, h.last0, h.lastk, h.ids, fun j x hx => ?_, fun j x hx => ?_⟩
  · rw [get_del h.nod] at hx
    split at hx
    · cases hx
    · exact h.keys j x hx
  · rw [get_del h.nod] at hx
    split at hx
    · cases hx
    · exact h.attrs j x hx
theorem attr_view {T : PT} {n : Int} {key value : ByteArray} {x : PN} (hx : T.get n = some x) (ha : AttrOk x.attrs) : (T.attr n key value).view = updV T.view n (some ⟨x.parent, x.name, fun j => if j = key then (if value = empty then none else some value) else getS x.attrs j⟩) := by
  funext j
  unfold updV PT.view
  rw [PT.attr, PT.get_mod]
  split
  · rename_i e
    rw [e, hx]
    simp only [Option.map_some, PN.view, Option.some.injEq, AN.mk.injEq, true_and]
    funext i
    exact getS_set ha key value i
  · rfl
theorem attr_ok {T : PT} {n : Int} {key value : ByteArray} {k : Nat} (h : T.ok k) (hk : key.size ≤ 255) : (T.attr n key value).ok (k + 1) :=
  ok_mod h (by omega) fun x ⟨h1, h2⟩ => ⟨h1.set (k := key) (v := value) hk, by have := len_set x.attrs key value; show (setS x.attrs key value).length ≤ _; omega⟩
end Go.Proofs.YtmjiojflncffeaaGreat.Vc

/- What is done is taken back: plain, the whole. -/
set_option linter.unusedVariables false
set_option linter.unusedSimpArgs false
namespace Go.Proofs.YtmjiojflncffeaaGreat.Vc
open Go

theorem may_make {T : PT} {op : Op} (h : mayA T op = true) (k : op.kind = 1) : T.get op.node = none ∧ ∃ x, T.get op.parent = some x := by
  rw [mayA, if_pos k] at h
  simp only [Bool.and_eq_true, Bool.not_eq_true', PT.has] at h
  exact ⟨Option.isNone_iff_eq_none.1 (by rw [← Option.not_isSome, h.1.1.2]; rfl), Option.isSome_iff_exists.1 h.1.2⟩
theorem may_there {T : PT} {op : Op} (h : mayA T op = true) (k : op.kind ≠ 1) : ∃ x, T.get op.node = some x := by
  rw [mayA, if_neg k] at h
  split at h
  · simp only [Bool.and_eq_true, PT.has] at h
    exact Option.isSome_iff_exists.1 h.1.1.1.1
  · split at h
    · simp only [Bool.and_eq_true, PT.has] at h
      exact Option.isSome_iff_exists.1 h.1
    · cases h
theorem may_key {T : PT} {op : Op} (h : mayA T op = true) (k : op.kind ≠ 1) (k2 : op.kind ≠ 2) : op.key.size ≤ 255 := by
  rw [mayA, if_neg k, if_neg k2] at h
  split at h
  · simp only [Bool.and_eq_true, pairB, decide_eq_true_eq] at h
    exact h.2.1.2
  · cases h

theorem does_ids (T : PT) (op : Op) : (T.does op).ids = T.ids ++ [T.last + 1] := rfl
theorem acts_last (T : PT) (op : Op) : (T.acts op).last = T.last := by
  unfold PT.acts
  split
  · rw [put_last]; rfl
  · split
    · rw [put_last]
    · rfl
theorem does_last (T : PT) (op : Op) : (T.does op).last = T.last + 1 := by
  show (({ T with last := T.last + 1 } : PT).acts op).last = _
  rw [acts_last]
theorem does_view1 {T : PT} {op : Op} (h : mayA T op = true) (k : op.kind = 1) : (T.does op).view = updV T.view op.node (some ⟨op.parent, op.name, fun _ => none⟩) := by
  have hn := (may_make h k).1
  have h1 : (({ T with last := T.last + 1 } : PT).add op.node).get op.node = some PN.bare := by rw [PT.get_add (T := { T with last := T.last + 1 }) hn, if_pos rfl]
  show (({ T with last := T.last + 1 } : PT).acts op).view = _
  rw [PT.acts, if_pos k, put_view h1, add_view (T := { T with last := T.last + 1 }) hn, updV_updV]
  rfl
theorem does_view2 {T : PT} {op : Op} {x : PN} (hx : T.get op.node = some x) (k : op.kind = 2) : (T.does op).view = updV T.view op.node (some ⟨op.parent, op.name, getS x.attrs⟩) := by
  show (({ T with last := T.last + 1 } : PT).acts op).view = _
  rw [PT.acts, if_neg (by omega), if_pos k]
  exact put_view (T := { T with last := T.last + 1 }) hx
theorem does_view3 {T : PT} {op : Op} {x : PN} (hx : T.get op.node = some x) (ha : AttrOk x.attrs) (k : op.kind ≠ 1) (k2 : op.kind ≠ 2) : (T.does op).view = updV T.view op.node (some ⟨x.parent, x.name, fun j => if j = op.key then (if op.value = empty then none else some op.value) else getS x.attrs j⟩) := by
  show (({ T with last := T.last + 1 } : PT).acts op).view = _
  rw [PT.acts, if_neg k, if_neg k2]
  exact attr_view (T := { T with last := T.last + 1 }) hx ha
theorem acts_ok {T : PT} {op : Op} {k : Nat} (h : T.ok k) (hm : mayA T op = true) (hw : (Lit.int .i64 op.node).wf = true) : (T.acts op).ok (k + 1) := by
  unfold PT.acts
  split
  · rename_i k1; exact put_ok (add_ok h (may_make hm k1).1 hw)
  · split
    · exact (put_ok h).up (by omega)
    · rename_i k1 k2; exact attr_ok h (may_key hm k1 k2)
theorem does_ok {T : PT} {op : Op} {k : Nat} (h : T.ok k) (hm : mayA T op = true) (hw : (Lit.int .i64 op.node).wf = true) : (T.does op).ok (k + 1) := by
  have h0 : ({ T with last := T.last + 1 } : PT).acts op = { T.acts op with last := T.last + 1 } := by
    unfold PT.acts PT.put
    split
    · show (match (T.add op.node).get op.node with | _ => _) = _
      have e : (({ T with last := T.last + 1 } : PT).add op.node).get op.node = (T.add op.node).get op.node := rfl
      rw [e]
      cases (T.add op.node).get op.node <;> rfl
    · split
      · have e : (({ T with last := T.last + 1 } : PT)).get op.node = T.get op.node := rfl
        rw [e]
        cases T.get op.node <;> rfl
      · rfl
  obtain ⟨h1, h2, h3, h4, h5, h6, h7⟩ := acts_ok h hm hw
  have hl := h.lastk
  have hl0 := h.last0
  have hi := h.ids
  unfold PT.does
  rw [h0]
  exact ⟨h1, h2, by show 0 ≤ T.last + 1; omega, by show T.last + 1 ≤ ((k + 1 : Nat) : Int); omega, by show (T.ids ++ [T.last + 1]).length ≤ _; simp; omega, h6, h7⟩

theorem undo_does {T B : PT} {op : Op} {mk : Value} {k k' : Nat} (hm : mayA T op = true) (hT : T.ok k) (hB : B.ok k') (hv : B.view = (T.does op).view) : (B.undone (T.undo mk op)).view = T.view ∧ (B.undone (T.undo mk op)).ok (k' + 1) := by
  have hB1 : ({ B with ids := B.ids.dropLast } : PT).ok k' := ⟨hB.nod, hB.many, hB.last0, hB.lastk, by have := hB.ids; simp; omega, hB.keys, hB.attrs⟩
  by_cases k1 : op.kind = 1
  · obtain ⟨hn, x, hx⟩ := may_make hm k1
    have hu : T.undo mk op = ⟨mk, T.last + 1, op, zPlace, ⟨#[]⟩⟩ := by rw [PT.undo, hn]
    have h1 : (({ B with ids := B.ids.dropLast } : PT).unkid op.parent op.node).ok k' := ok_mod hB1 (Nat.le_refl _) fun x hx => hx
    have h2 : (({ B with ids := B.ids.dropLast } : PT).unkid op.parent op.node).view = B.view := view_mod (T := { B with ids := B.ids.dropLast }) fun _ => rfl
    rw [hu, PT.undone]
    simp only
    rw [if_pos k1]
    refine ⟨?_, (del_ok h1).up (by omega)⟩
    rw [del_view h1.nod, h2, hv, does_view1 hm k1, updV_updV]
    exact updV_self (PT.view_none.2 hn)
  · obtain ⟨x, hx⟩ := may_there hm k1
    by_cases k2 : op.kind = 2
    · have hu : T.undo mk op = ⟨mk, T.last + 1, op, ⟨x.parent, x.name⟩, ⟨#[]⟩⟩ := by rw [PT.undo, hx]; simp only; rw [if_neg k1, if_pos k2]
      have hd := does_view2 hx k2
      have hbv : B.view op.node = some ⟨op.parent, op.name, getS x.attrs⟩ := by rw [hv, hd]; simp [updV]
      obtain ⟨xb, hxb, he⟩ := get_of_view hbv
      rw [hu, PT.undone]
      simp only
      rw [if_neg k1, if_pos k2]
      refine ⟨?_, (put_ok hB1).up (by omega)⟩
      rw [put_view (T := { B with ids := B.ids.dropLast }) hxb]
      show updV B.view op.node _ = _
      have ha : getS xb.attrs = getS x.attrs := congrArg AN.attr he
      rw [hv, hd, updV_updV, ha]
      exact updV_self (PT.view_get hx)
    · have hu : T.undo mk op = ⟨mk, T.last + 1, op, zPlace, (getS x.attrs op.key).getD ⟨#[]⟩⟩ := by rw [PT.undo, hx]; simp only; rw [if_neg k1, if_neg k2]
      obtain ⟨hax, _⟩ := hT.attrs _ _ hx
      have hd := does_view3 hx hax k1 k2
      have hbv : B.view op.node = some ⟨x.parent, x.name, fun j => if j = op.key then (if op.value = empty then none else some op.value) else getS x.attrs j⟩ := by rw [hv, hd]; simp [updV]
      obtain ⟨xb, hxb, he⟩ := get_of_view hbv
      obtain ⟨hab, _⟩ := hB.attrs _ _ hxb
      rw [hu, PT.undone]
      simp only
      rw [if_neg k1, if_neg k2]
      refine ⟨?_, attr_ok hB1 (may_key hm k1 k2)⟩
      rw [attr_view (T := { B with ids := B.ids.dropLast }) hxb hab]
      show updV B.view op.node _ = _
      rw [hv, hd, updV_updV]
      refine updV_self ?_
      rw [PT.view_get hx]
      have e1 : xb.parent = x.parent := congrArg AN.parent he
      have e2 : xb.name = x.name := congrArg AN.name he
      have e3 : getS xb.attrs = fun j => if j = op.key then (if op.value = empty then none else some op.value) else getS x.attrs j := congrArg AN.attr he
      rw [e1, e2]
      congr 1
      show AN.mk x.parent x.name (getS x.attrs) = _
      congr 1
      funext j
      by_cases hj : j = op.key
      · subst hj
        rw [if_pos rfl]
        cases hg : getS x.attrs op.key with
        | none => rfl
        | some v =>
          have := hax.val _ _ hg
          rw [Option.getD_some, if_neg this]
      · rw [if_neg hj, e3]; simp [hj]
end Go.Proofs.YtmjiojflncffeaaGreat.Vc

/- What is told hangs on what is seen; a history. -/
set_option linter.unusedVariables false
set_option linter.unusedSimpArgs false
namespace Go.Proofs.YtmjiojflncffeaaGreat.Vc
open Go

theorem keys_perm {a b : List (ByteArray × ByteArray)} (ha : AttrOk a) (hb : AttrOk b) (h : getS a = getS b) : (a.map (·.1)).Perm (b.map (·.1)) := by
  rw [List.perm_ext_iff_of_nodup ha.nod hb.nod]
  intro k
  have h1 := getS_none (l := a) (j := k)
  have h2 := getS_none (l := b) (j := k)
  rw [h] at h1
  constructor
  · intro hk
    refine Classical.byContradiction fun hc => ?_
    exact (h1.1 (h2.2 hc)) hk
  · intro hk
    refine Classical.byContradiction fun hc => ?_
    exact (h2.1 (h1.2 hc)) hk
theorem attrsOf_eq {x y : PN} (hx : AttrOk x.attrs) (hy : AttrOk y.attrs) (h : getS x.attrs = getS y.attrs) : attrsOf x = attrsOf y := by
  have hp := (keys_perm hx hy h).map fun b : ByteArray => b.data.toList
  have hk : attrKeys x = attrKeys y := by
    have := mergeSort_of_perm hp
    simpa [attrKeys, sortB, List.map_map, Function.comp_def] using this
  rw [attrsOf, attrsOf, hk, h]
theorem told_eq {T T' : PT} {k k' : Nat} (h : T.ok k) (h' : T'.ok k') (hv : T.view = T'.view) : nodesTold T = nodesTold T' ∧ T.nodes.length = T'.nodes.length := by
  have hp : (T.nodes.map (·.1)).Perm (T'.nodes.map (·.1)) := by
    rw [List.perm_ext_iff_of_nodup h.nod h'.nod]
    intro n
    have e : T.get n = none ↔ T'.get n = none := by rw [← PT.view_none, ← PT.view_none, hv]
    have h1 : T.get n = none ↔ n ∉ T.nodes.map (·.1) := getA_none
    have h2 : T'.get n = none ↔ n ∉ T'.nodes.map (·.1) := getA_none
    constructor
    · intro hk
      refine Classical.byContradiction fun hc => ?_
      exact (h1.1 (e.2 (h2.2 hc))) hk
    · intro hk
      refine Classical.byContradiction fun hc => ?_
      exact (h2.1 (e.1 (h1.2 hc))) hk
  have hk : nodesK T = nodesK T' := mergeSort_of_perm_i hp
  refine ⟨?_, by simpa using hp.length_eq⟩
  have hf : (fun n => (T.get n).map fun x => toldOf n x) = fun n => (T'.get n).map fun x => toldOf n x := by
    funext n
    cases hg : T.get n with
    | none =>
      have : T'.get n = none := by rw [← PT.view_none, ← hv, PT.view_none]; exact hg
      rw [this]
    | some x =>
      obtain ⟨y, hy, he⟩ := get_of_view (T := T') (n := n) (a := x.view) (by rw [← hv]; exact PT.view_get hg)
      rw [hy]
      simp only [Option.map_some, Option.some.injEq]
      have e1 : y.parent = x.parent := congrArg AN.parent he
      have e2 : y.name = x.name := congrArg AN.name he
      have e3 : getS y.attrs = getS x.attrs := congrArg AN.attr he
      rw [toldOf, toldOf, e1, e2, attrsOf_eq (h.attrs _ _ hg).1 (h'.attrs _ _ hy).1 e3.symm]
  rw [nodesTold, nodesTold, hk, toldL, toldL, hf]

/-- A tree that may be told, by its measure. -/
theorem ok_tells {T : PT} {k : Nat} (h : T.ok k) (hk : k ≤ 1099511627776) : T.tells := by
  refine ⟨by have := h.many; omega, h.keys, fun n x hx => ?_⟩
  obtain ⟨h1, h2⟩ := h.attrs n x hx
  exact ⟨by omega, fun p hp => by have := h1.key p.1 (List.mem_map.2 ⟨p, hp, rfl⟩); omega⟩
theorem ok_fits {T : PT} {k : Nat} (h : T.ok k) (hk : k < 1099511627776) : T.fits := ⟨by have := h.many; omega, h.last0, by have := h.lastk; omega, by have := h.ids; omega⟩
theorem T0_ok : T0.ok 0 := by
  refine ⟨by decide, by decide, by decide, by decide, by decide, fun n x hx => ?_, fun n x hx => ?_⟩
  · have : n = 1 ∨ n = 2 := by
      have hm : n ∈ T0.nodes.map (·.1) := Classical.byContradiction fun hc => by
        have : T0.get n = none := getA_none.2 hc
        rw [this] at hx; cases hx
      simpa [T0] using hm
    rcases this with rfl | rfl <;> decide
  · have := getA_mem hx
    simp only [T0, List.mem_cons, List.not_mem_nil, or_false, Prod.mk.injEq] at this
    rcases this with ⟨_, rfl⟩ | ⟨_, rfl⟩ <;> exact ⟨AttrOk.nil, by simp [PN.bare]⟩

/-- What was done to a tree, from one that was. -/
inductive Hist (mk : Value) (T0 : PT) : List Undo → PT → Prop
  | nil : Hist mk T0 [] T0
  | snoc {us : List Undo} {T : PT} {op : Op} : Hist mk T0 us T → mayA T op = true → (∃ k, T.ok k) → Hist mk T0 (us ++ [T.undo mk op]) (T.does op)
theorem undo_ix (T : PT) (mk : Value) (op : Op) : (T.undo mk op).ix = T.last + 1 := by
  unfold PT.undo
  split
  · rfl
  · split
    · rfl
    · split <;> rfl
theorem undo_of (T : PT) (mk : Value) (op : Op) : (T.undo mk op).of = mk := by
  unfold PT.undo
  split
  · rfl
  · split
    · rfl
    · split <;> rfl
theorem undo_op (T : PT) (mk : Value) (op : Op) : (T.undo mk op).op = op := by
  unfold PT.undo
  split
  · rfl
  · split
    · rfl
    · split <;> rfl
theorem Hist.last {mk : Value} {T0 T : PT} {us : List Undo} {u : Undo} (h : Hist mk T0 (us ++ [u]) T) : ∃ T' op, Hist mk T0 us T' ∧ mayA T' op = true ∧ (∃ k, T'.ok k) ∧ u = T'.undo mk op ∧ T = T'.does op := by
  generalize hl : us ++ [u] = l at h
  cases h with
  | nil => simp at hl
  | snoc h1 h2 h3 =>
    obtain ⟨rfl, e⟩ := List.append_inj' hl rfl
    simp only [List.cons.injEq, and_true] at e
    exact ⟨_, _, h1, h2, h3, e, rfl⟩
theorem Hist.none {mk : Value} {T0 T : PT} (h : Hist mk T0 [] T) : T = T0 := by
  generalize hl : ([] : List Undo) = l at h
  cases h with
  | nil => rfl
  | snoc h1 h2 h3 => simp at hl
end Go.Proofs.YtmjiojflncffeaaGreat.Vc

/- May hangs on what is seen; two trees that look alike go on alike. -/
set_option linter.unusedVariables false
set_option linter.unusedSimpArgs false
namespace Go.Proofs.YtmjiojflncffeaaGreat.Vc
open Go

theorem has_view {T T' : PT} (hv : T.view = T'.view) (n : Int) : T.has n = T'.has n := by
  have e : T.get n = none ↔ T'.get n = none := by rw [← PT.view_none, ← PT.view_none, hv]
  unfold PT.has
  cases h : T.get n with
  | none => rw [e.1 h]
  | some x =>
    cases h' : T'.get n with
    | none => rw [e.2 h'] at h; cases h
    | some y => rfl
theorem belowA_view {T T' : PT} (hv : T.view = T'.view) : ∀ (f : Nat) (n a : Int), belowA T f n a = belowA T' f n a
  | 0, _, _ => rfl
  | f + 1, n, a => by
    unfold belowA
    split
    · rfl
    · cases h : T.get n with
      | none =>
        have : T'.get n = none := by rw [← PT.view_none, ← hv, PT.view_none]; exact h
        rw [this]
      | some x =>
        obtain ⟨y, hy, he⟩ := get_of_view (T := T') (n := n) (a := x.view) (by rw [← hv]; exact PT.view_get h)
        rw [hy]
        simp only
        have : y.parent = x.parent := congrArg AN.parent he
        rw [this, belowA_view hv f]
theorem mayA_view {T T' : PT} (hv : T.view = T'.view) (hl : T.nodes.length = T'.nodes.length) (op : Op) : mayA T op = mayA T' op := by
  unfold mayA
  rw [has_view hv, has_view hv]
  have : T.below op.parent op.node = T'.below op.parent op.node := by unfold PT.below; rw [hl]; exact belowA_view hv _ _ _
  rw [this]
theorem does_view {T T' : PT} {op : Op} {k k' : Nat} (hm : mayA T op = true) (h : T.ok k) (h' : T'.ok k') (hv : T.view = T'.view) : (T.does op).view = (T'.does op).view := by
  have hm' : mayA T' op = true := by rw [← mayA_view hv (told_eq h h' hv).2]; exact hm
  by_cases k1 : op.kind = 1
  · rw [does_view1 hm k1, does_view1 hm' k1, hv]
  · obtain ⟨x, hx⟩ := may_there hm k1
    obtain ⟨y, hy, he⟩ := get_of_view (T := T') (n := op.node) (a := x.view) (by rw [← hv]; exact PT.view_get hx)
    have e1 : y.parent = x.parent := congrArg AN.parent he
    have e2 : y.name = x.name := congrArg AN.name he
    have e3 : getS y.attrs = getS x.attrs := congrArg AN.attr he
    by_cases k2 : op.kind = 2
    · rw [does_view2 hx k2, does_view2 hy k2, hv, e3]
    · rw [does_view3 hx (h.attrs _ _ hx).1 k1 k2, does_view3 hy (h'.attrs _ _ hy).1 k1 k2, hv, e1, e2, e3]
end Go.Proofs.YtmjiojflncffeaaGreat.Vc

/- Looked up. -/
set_option linter.unusedVariables false
set_option linter.unusedSimpArgs false
set_option maxRecDepth 100000
namespace Go.Proofs.YtmjiojflncffeaaGreat.Vc
open Go Go.Proofs

theorem one_upd (r : Nat) (a b : Obj) : (one r a).upd r b = one r b := by
  funext j
  by_cases h : j = r
  · subst h; simp [PH.upd, one]
  · simp [PH.upd, one, h]
theorem one_self (r : Nat) (a : Obj) : one r a r = some a := by simp [one]
theorem one_self_kn {u0 : PH} {L : List PH} {r : Nat} {a : Obj} {u : PH} (h : KN u0 L u) : KN u0 (one r a :: L) u := KN.cons h

theorem nodup_len {α : Type} [BEq α] [LawfulBEq α] : ∀ {a b : List α}, a.Nodup → (∀ x ∈ a, x ∈ b) → a.length ≤ b.length
  | [], b, _, _ => by simp
  | x :: a, b, hn, hs => by
    rw [List.nodup_cons] at hn
    have hx := hs x (by simp)
    have ih := nodup_len (a := a) (b := b.erase x) hn.2 fun y hy => by
      have hy' := hs y (by simp [hy])
      exact (List.mem_erase_of_ne (fun e => by subst e; exact hn.1 hy)).2 hy'
    rw [List.length_erase_of_mem hx] at ih
    have : 0 < b.length := List.length_pos_of_mem hx
    simp only [List.length_cons]; omega
theorem IterM.mem {it mo : Obj} {b : Nat} {s l : List (Value × Value)} {kd : Option IntKind} (h : IterM it mo b s) (hm : MapI kd mo l) : ∀ p ∈ s, p ∈ l := by
  obtain ⟨es, cl, vs, rfl, rfl, h1, h2, rfl⟩ := h
  obtain ⟨es', cl', he, rfl, _, _⟩ := hm
  cases he
  intro p hp
  obtain ⟨x, hx, rfl⟩ := List.mem_map.1 hp
  exact List.mem_map.2 ⟨x, h1 x hx, rfl⟩
theorem IterM.le {it mo : Obj} {b : Nat} {s l : List (Value × Value)} {kd : Option IntKind} (h : IterM it mo b s) (hm : MapI kd mo l) : s.length ≤ l.length := by
  obtain ⟨es, cl, vs, rfl, rfl, h1, h2, rfl⟩ := h
  obtain ⟨es', cl', he, rfl, _, _⟩ := hm
  cases he
  rw [List.length_map, List.length_map]
  have := nodup_len (a := vs.map (·.born)) (b := es.toList.map (·.born)) h2 fun y hy => by
    obtain ⟨x, hx, rfl⟩ := List.mem_map.1 hy
    exact List.mem_map.2 ⟨x, h1 x hx, rfl⟩
  simpa using this
theorem rawK_perm {a b : List Int} (h : (rawK a).Perm (rawK b)) : a.Perm b := by
  have := h.map fun p : Value × Value => match p.1 with | .int _ n => n | _ => 0
  simpa [rawK, List.map_map, Function.comp_def] using this
theorem mem_rawK {p : Value × Value} {l : List Int} (h : p ∈ rawK l) : ∃ c ∈ l, p = (.int .i64 c, .int .i64 1) := by
  obtain ⟨c, hc, rfl⟩ := List.mem_map.1 h
  exact ⟨c, hc, rfl⟩

def PT.nameIs (T : PT) (c : Int) (name : ByteArray) : Prop := ∃ y, T.get c = some y ∧ y.name = name
/-- The least of these that has the name; 0 where none has it. -/
def LookP (T : PT) (name : ByteArray) (s : List Int) (best : Int) : Prop :=
  (best = 0 ∧ ∀ c ∈ s, ¬ T.nameIs c name) ∨ (best ∈ s ∧ T.nameIs best name ∧ ∀ c ∈ s, T.nameIs c name → best ≤ c)
theorem LookP.perm {T : PT} {name : ByteArray} {s t : List Int} {best : Int} (h : LookP T name s best) (hp : s.Perm t) : LookP T name t best := by
  rcases h with ⟨h1, h2⟩ | ⟨h1, h2, h3⟩
  · exact .inl ⟨h1, fun c hc => h2 c (hp.mem_iff.2 hc)⟩
  · exact .inr ⟨hp.mem_iff.1 h1, h2, fun c hc => h3 c (hp.mem_iff.2 hc)⟩

theorem LookP.skip {T : PT} {name : ByteArray} {t : List Int} {best c : Int} (h : LookP T name t best) (hc : ¬ T.nameIs c name) : LookP T name (t ++ [c]) best := by
  rcases h with ⟨h1, h2⟩ | ⟨h1, h2, h3⟩
  · refine .inl ⟨h1, fun d hd => ?_⟩
    rcases List.mem_append.1 hd with h | h
    · exact h2 d h
    · simp only [List.mem_singleton] at h; subst h; exact hc
  · refine .inr ⟨by simp [h1], h2, fun d hd hn => ?_⟩
    rcases List.mem_append.1 hd with h | h
    · exact h3 d h hn
    · simp only [List.mem_singleton] at h; subst h; exact absurd hn hc
theorem LookP.first {T : PT} {name : ByteArray} {t : List Int} {best c : Int} (h : LookP T name t best) (h0 : ∀ d ∈ t, d ≠ 0) (hb : best = 0) (hc : T.nameIs c name) : LookP T name (t ++ [c]) c := by
  rcases h with ⟨h1, h2⟩ | ⟨h1, h2, h3⟩
  · refine .inr ⟨by simp, hc, fun d hd hn => ?_⟩
    rcases List.mem_append.1 hd with h | h
    · exact absurd hn (h2 d h)
    · simp only [List.mem_singleton] at h; subst h; exact Int.le_refl _
  · exact absurd hb (h0 _ h1)
theorem LookP.less {T : PT} {name : ByteArray} {t : List Int} {best c : Int} (h : LookP T name t best) (hb : best ≠ 0) (hl : c < best) (hc : T.nameIs c name) : LookP T name (t ++ [c]) c := by
  rcases h with ⟨h1, h2⟩ | ⟨h1, h2, h3⟩
  · exact absurd h1 hb
  · refine .inr ⟨by simp, hc, fun d hd hn => ?_⟩
    rcases List.mem_append.1 hd with h | h
    · have := h3 d h hn; omega
    · simp only [List.mem_singleton] at h; subst h; exact Int.le_refl _
theorem LookP.more {T : PT} {name : ByteArray} {t : List Int} {best c : Int} (h : LookP T name t best) (hb : best ≠ 0) (hl : ¬ c < best) : LookP T name (t ++ [c]) best := by
  rcases h with ⟨h1, h2⟩ | ⟨h1, h2, h3⟩
  · exact absurd h1 hb
  · refine .inr ⟨by simp [h1], h2, fun d hd hn => ?_⟩
    rcases List.mem_append.1 hd with h | h
    · exact h3 d h hn
    · simp only [List.mem_singleton] at h; subst h; omega

end Go.Proofs.YtmjiojflncffeaaGreat.Vc

/- In a tree that was made each node leads to the root or the trash: plain. -/
set_option linter.unusedVariables false
set_option linter.unusedSimpArgs false
namespace Go.Proofs.YtmjiojflncffeaaGreat.Vc
open Go

theorem updV_at (v : Int → Option AN) (n : Int) (a : AN) : updV v n (some a) n = some a := by simp only [updV, if_pos]
/-- Up to a top in so many steps. -/
def LeadsN (v : Int → Option AN) : Nat → Int → Prop
  | 0, n => topB n = true
  | k + 1, n => topB n = false ∧ ∃ a, v n = some a ∧ LeadsN v k a.parent
theorem LeadsN.uniq {v : Int → Option AN} : ∀ {k j : Nat} {n : Int}, LeadsN v k n → LeadsN v j n → k = j
  | 0, 0, _, _, _ => rfl
  | 0, j + 1, n, h, h' => by have := h'.1; rw [show topB n = true from h] at this; cases this
  | k + 1, 0, n, h, h' => by have := h.1; rw [show topB n = true from h'] at this; cases this
  | k + 1, j + 1, n, ⟨_, a, h1, h2⟩, ⟨_, a', h1', h2'⟩ => by
    rw [h1] at h1'
    cases h1'
    rw [h2.uniq h2']
/-- The nodes on the way, the tops left out. -/
theorem LeadsN.way {v : Int → Option AN} : ∀ {k : Nat} {n : Int}, LeadsN v k n → ∃ l : List Int, l.length = k ∧ l.Nodup ∧ (∀ m ∈ l, v m ≠ none) ∧ ∀ m ∈ l, ∃ j, j ≤ k ∧ LeadsN v j m
  | 0, n, h => ⟨[], rfl, List.nodup_nil, fun m hm => by simp at hm, fun m hm => by simp at hm⟩
  | k + 1, n, h => by
    obtain ⟨ht, a, h1, h2⟩ := h
    obtain ⟨l, e1, e2, e3, e4⟩ := h2.way
    refine ⟨n :: l, by simp [e1], List.nodup_cons.2 ⟨fun hm => ?_, e2⟩, fun m hm => ?_, fun m hm => ?_⟩
    · obtain ⟨j, hj, h3⟩ := e4 n hm
      have := h3.uniq (show LeadsN v (k + 1) n from ⟨ht, a, h1, h2⟩)
      omega
    · rcases List.mem_cons.1 hm with rfl | hm
      · rw [h1]; simp
      · exact e3 m hm
    · rcases List.mem_cons.1 hm with rfl | hm
      · exact ⟨k + 1, Nat.le_refl _, ht, a, h1, h2⟩
      · obtain ⟨j, hj, h3⟩ := e4 m hm
        exact ⟨j, by omega, h3⟩
theorem LeadsN.few {T : PT} {k : Nat} {n : Int} (h : LeadsN T.view k n) : k ≤ T.nodes.length := by
  obtain ⟨l, e1, e2, e3, _⟩ := h.way
  have := nodup_len (b := T.nodes.map (·.1)) e2 fun m hm => Classical.byContradiction fun hc => e3 m hm (PT.view_none.2 (getA_none.2 hc))
  simpa [e1] using this
theorem LeadsN.upd {v : Int → Option AN} {n0 : Int} {a0 : AN} (h0 : ∃ j, LeadsN (updV v n0 (some a0)) j n0) : ∀ {k : Nat} {n : Int}, LeadsN v k n → ∃ j, LeadsN (updV v n0 (some a0)) j n
  | 0, n, h => ⟨0, h⟩
  | k + 1, n, h => by
    by_cases hn : n = n0
    · subst hn; exact h0
    · obtain ⟨ht, a, h1, h2⟩ := h
      obtain ⟨j, hj⟩ := h2.upd h0
      exact ⟨j + 1, ht, a, by simp only [updV, if_neg hn]; exact h1, hj⟩
/-- A way that does not pass a node stays when that node is moved. -/
theorem LeadsN.past {T : PT} {n0 : Int} {a0 : AN} : ∀ {k f : Nat} {n : Int}, LeadsN T.view k n → k < f → belowA T f n n0 = false → LeadsN (updV T.view n0 (some a0)) k n
  | 0, f, n, h, _, _ => h
  | k + 1, 0, n, h, hf, _ => by omega
  | k + 1, f + 1, n, h, hf, hb => by
    obtain ⟨ht, a, h1, h2⟩ := h
    obtain ⟨x, hx, rfl⟩ := get_of_view h1
    unfold belowA at hb
    by_cases hn : n = n0
    · rw [if_pos hn] at hb; cases hb
    · rw [if_neg hn, hx] at hb
      simp only at hb
      rw [ht] at hb
      simp only [Bool.false_eq_true, if_false] at hb
      refine ⟨ht, x.view, by simp only [updV, if_neg hn]; exact h1, ?_⟩
      exact LeadsN.past h2 (by omega) hb
def PT.led (T : PT) : Prop := ∀ n, T.view n ≠ none → ∃ k, LeadsN T.view k n
theorem has_iff {T : PT} {n : Int} : T.has n = true ↔ T.view n ≠ none := by
  rw [PT.has, Option.isSome_iff_ne_none]
  exact not_congr PT.view_none.symm
theorem led_of {v : Int → Option AN} {n0 : Int} {a0 : AN} (h : ∀ n, v n ≠ none → ∃ k, LeadsN v k n) (h0 : ∃ j, LeadsN (updV v n0 (some a0)) j n0) : ∀ n, updV v n0 (some a0) n ≠ none → ∃ k, LeadsN (updV v n0 (some a0)) k n := by
  intro n hn
  by_cases e : n = n0
  · subst e; exact h0
  · obtain ⟨k, hk⟩ := h n (by simpa only [updV, if_neg e] using hn)
    exact hk.upd h0
theorem T0_led : T0.led := fun n hn => by
  refine ⟨0, ?_⟩
  have hm : n ∈ T0.nodes.map (·.1) := Classical.byContradiction fun hc => hn (PT.view_none.2 (getA_none.2 hc))
  have : n = 1 ∨ n = 2 := by simpa [T0] using hm
  rcases this with rfl | rfl <;> exact (show topB _ = true by decide)
theorem does_led {T : PT} {op : Op} {k : Nat} (h : T.led) (hok : T.ok k) (hm : mayA T op = true) : (T.does op).led := by
  unfold PT.led
  by_cases k1 : op.kind = 1
  · rw [does_view1 hm k1]
    refine led_of h ?_
    obtain ⟨hn, x, hx⟩ := may_make hm k1
    rw [mayA, if_pos k1] at hm
    simp only [Bool.and_eq_true, decide_eq_true_eq] at hm
    have ht : topB op.node = false := by simp only [topB]; simp; omega
    obtain ⟨j, hj⟩ := h op.parent (by rw [PT.view_get hx]; simp)
    have hp : ∀ (f : Nat) (n : Int) (j : Nat), LeadsN T.view j n → LeadsN (updV T.view op.node (some ⟨op.parent, op.name, fun _ => none⟩)) j n := by
      intro f n j
      induction j generalizing n with
      | zero => exact fun h => h
      | succ j ih =>
        rintro ⟨h1, a, h2, h3⟩
        refine ⟨h1, a, ?_, ih _ h3⟩
        have : n ≠ op.node := fun e => by rw [e, PT.view_none.2 hn] at h2; cases h2
        simp only [updV, if_neg this]; exact h2
    exact ⟨j + 1, ht, _, updV_at _ _ _, hp 0 _ _ hj⟩
  · obtain ⟨x, hx⟩ := may_there hm k1
    by_cases k2 : op.kind = 2
    · rw [does_view2 hx k2]
      refine led_of h ?_
      rw [mayA, if_neg k1, if_pos k2] at hm
      simp only [Bool.and_eq_true, Bool.not_eq_true'] at hm
      obtain ⟨j, hj⟩ := h op.parent (has_iff.1 hm.1.1.2)
      exact ⟨j + 1, hm.1.1.1.2, _, updV_at _ _ _, hj.past (by have := hj.few; omega) hm.1.2⟩
    · rw [does_view3 hx (hok.attrs _ _ hx).1 k1 k2]
      refine led_of h ?_
      obtain ⟨j, hj⟩ := h op.node (by rw [PT.view_get hx]; simp)
      have hp : ∀ (n : Int) (j : Nat), LeadsN T.view j n → LeadsN (updV T.view op.node (some ⟨x.parent, x.name, fun j => if j = op.key then (if op.value = empty then none else some op.value) else getS x.attrs j⟩)) j n := by
        intro n j
        induction j generalizing n with
        | zero => exact fun h => h
        | succ j ih =>
          rintro ⟨h1, a, h2, h3⟩
          by_cases e : n = op.node
          · subst e
            rw [PT.view_get hx] at h2
            cases h2
            exact ⟨h1, _, updV_at _ _ _, ih _ h3⟩
          · exact ⟨h1, a, by simp only [updV, if_neg e]; exact h2, ih _ h3⟩
      exact ⟨j, hp _ _ hj⟩
end Go.Proofs.YtmjiojflncffeaaGreat.Vc

/- What is true of every tree that was made: names, attributes, children: plain. -/
set_option linter.unusedVariables false
set_option linter.unusedSimpArgs false
namespace Go.Proofs.YtmjiojflncffeaaGreat.Vc
open Go

/-- A tree as it may be seen. -/
structure VGood (v : Int → Option AN) : Prop where
  pos : ∀ n a, v n = some a → 0 < n
  one : v 1 ≠ none
  two : v 2 ≠ none
  top : ∀ n a, v n = some a → topB n = true → a.parent = 0 ∧ a.name = empty
  name : ∀ n a, v n = some a → topB n = false → nameB a.name = true
  pairs : ∀ n a k w, v n = some a → a.attr k = some w → pairB k w = true ∧ w ≠ empty
  led : ∀ n, v n ≠ none → ∃ k, LeadsN v k n

theorem topB_iff {n : Int} : topB n = true ↔ n = 1 ∨ n = 2 := by simp [topB]
theorem T0_keys {n : Int} {a : AN} (h : T0.view n = some a) : topB n = true ∧ a = PN.bare.view := by
  obtain ⟨x, hx, rfl⟩ := get_of_view h
  have := getA_mem hx
  simp only [T0, List.mem_cons, List.not_mem_nil, or_false, Prod.mk.injEq] at this
  rcases this with ⟨rfl, rfl⟩ | ⟨rfl, rfl⟩ <;> exact ⟨by decide, rfl⟩
theorem T0_good : VGood T0.view := by
  refine ⟨fun n a h => ?_, ?_, ?_, fun n a h _ => ?_, fun n a h ht => ?_, fun n a k w h hk => ?_, T0_led⟩
  · have := topB_iff.1 (T0_keys h).1; omega
  · rw [show T0.view 1 = some PN.bare.view from rfl]; simp
  · rw [show T0.view 2 = some PN.bare.view from rfl]; simp
  · rw [(T0_keys h).2]; exact ⟨rfl, rfl⟩
  · rw [(T0_keys h).1] at ht; cases ht
  · rw [(T0_keys h).2] at hk; cases hk

theorem updV_ne {v : Int → Option AN} {n j : Int} {a : Option AN} (h : j ≠ n) : updV v n a j = v j := if_neg h
theorem updV_eq {v : Int → Option AN} {n : Int} {a : Option AN} : updV v n a n = a := if_pos rfl

theorem does_good {T : PT} {op : Op} {k : Nat} (h : VGood T.view) (hok : T.ok k) (hm : mayA T op = true) : VGood (T.does op).view := by
  have hled := does_led h.led hok hm
  unfold PT.led at hled
  have build : ∀ (n0 : Int) (a0 : AN), (T.does op).view = updV T.view n0 (some a0) → 0 < n0 → (topB n0 = true → a0.parent = 0 ∧ a0.name = empty) → (topB n0 = false → nameB a0.name = true) →
      (∀ k w, a0.attr k = some w → pairB k w = true ∧ w ≠ empty) → VGood (T.does op).view := by
    intro n0 a0 hv h1 h2 h3 h4
    rw [hv] at hled ⊢
    refine ⟨fun n a hn => ?_, ?_, ?_, fun n a hn => ?_, fun n a hn => ?_, fun n a k w hn => ?_, hled⟩
    · by_cases e : n = n0
      · rw [e]; exact h1
      · rw [updV_ne e] at hn; exact h.pos n a hn
    · by_cases e : (1 : Int) = n0
      · rw [e, updV_eq]; simp
      · rw [updV_ne e]; exact h.one
    · by_cases e : (2 : Int) = n0
      · rw [e, updV_eq]; simp
      · rw [updV_ne e]; exact h.two
    · by_cases e : n = n0
      · rw [e, updV_eq] at hn; cases hn; rw [e]; exact h2
      · rw [updV_ne e] at hn; exact h.top n a hn
    · by_cases e : n = n0
      · rw [e, updV_eq] at hn; cases hn; rw [e]; exact h3
      · rw [updV_ne e] at hn; exact h.name n a hn
    · by_cases e : n = n0
      · rw [e, updV_eq] at hn; cases hn; exact h4 k w
      · rw [updV_ne e] at hn; exact h.pairs n a k w hn
  by_cases k1 : op.kind = 1
  · have hm' := hm
    rw [mayA, if_pos k1] at hm
    simp only [Bool.and_eq_true, decide_eq_true_eq] at hm
    have ht : topB op.node = false := by simp only [topB]; simp; omega
    exact build _ _ (does_view1 hm' k1) (by omega) (fun e => by rw [ht] at e; cases e) (fun _ => hm.2) (fun k w e => by cases e)
  · obtain ⟨x, hx⟩ := may_there hm k1
    have hxv := PT.view_get hx
    by_cases k2 : op.kind = 2
    · have hv := does_view2 hx k2
      rw [mayA, if_neg k1, if_pos k2] at hm
      simp only [Bool.and_eq_true, Bool.not_eq_true'] at hm
      exact build _ _ hv (h.pos _ _ hxv) (fun e => by rw [hm.1.1.1.2] at e; cases e) (fun _ => hm.2) (fun k w e => h.pairs _ _ k w hxv e)
    · have hv := does_view3 hx (hok.attrs _ _ hx).1 k1 k2
      have hp : pairB op.key op.value = true := by
        rw [mayA, if_neg k1, if_neg k2] at hm
        split at hm
        · simp only [Bool.and_eq_true] at hm; exact hm.2
        · cases hm
      refine build _ _ hv (h.pos _ _ hxv) (fun e => h.top _ x.view hxv e) (fun e => h.name _ x.view hxv e) fun k w e => ?_
      simp only at e
      split at e
      · split at e
        · cases e
        · cases e
          rename_i e1 e2
          rw [e1]; exact ⟨hp, e2⟩
      · exact h.pairs _ _ k w hxv e

/-! ### Children -/
structure PT.kidsOk (T : PT) : Prop where
  nod : ∀ n x, T.get n = some x → x.kids.Nodup
  mem : ∀ n x c, T.get n = some x → (c ∈ x.kids ↔ topB c = false ∧ ∃ y, T.get c = some y ∧ y.parent = n)
theorem T0_kids : T0.kidsOk := by
  have key : ∀ n x, T0.get n = some x → topB n = true ∧ x = PN.bare := fun n x hx => by
    have := getA_mem hx
    simp only [T0, List.mem_cons, List.not_mem_nil, or_false, Prod.mk.injEq] at this
    rcases this with ⟨rfl, rfl⟩ | ⟨rfl, rfl⟩ <;> exact ⟨by decide, rfl⟩
  refine ⟨fun n x hx => ?_, fun n x c hx => ?_⟩
  · rw [(key n x hx).2]; exact List.nodup_nil
  · rw [(key n x hx).2]
    refine ⟨fun h => by simp [PN.bare] at h, fun ⟨h1, y, h2, _⟩ => ?_⟩
    rw [(key c y h2).1] at h1; cases h1
theorem putK_nodup {l : List Int} (h : l.Nodup) (n : Int) : (putK l n).Nodup := by
  unfold putK
  split
  · exact h
  · rename_i hn
    rw [List.nodup_append]
    refine ⟨h, by simp, fun a ha b hb => ?_⟩
    simp only [List.mem_singleton] at hb
    subst hb
    exact fun e => hn (e ▸ ha)
theorem mem_putK {l : List Int} {n c : Int} : c ∈ putK l n ↔ c = n ∨ c ∈ l := by
  unfold putK
  split
  · rename_i hn
    constructor
    · exact .inr
    · rintro (rfl | h)
      · exact hn
      · exact h
  · simp [or_comm]
/-- What is there after a node was put. -/
theorem get_put {T : PT} {n : Int} {p : Place} {x : PN} (hx : T.get n = some x) (j : Int) :
    (T.put n p).get j = (T.get j).map fun y => ⟨if j = n then p.parent else y.parent, if j = n then p.name else y.name, y.attrs,
      if j = p.parent then putK (if j = x.parent then y.kids.erase n else y.kids) n else if j = x.parent then y.kids.erase n else y.kids⟩ := by
  unfold PT.put
  rw [hx]
  simp only
  rw [get_kid, get_place, get_unkid]
  cases T.get j with
  | none => simp
  | some y =>
    rcases Classical.em (j = x.parent) with h1 | h1 <;> rcases Classical.em (j = n) with h2 | h2 <;> rcases Classical.em (j = p.parent) with h3 | h3
    all_goals
      first | have e1 := eq_false h1 | have e1 := eq_true h1
      first | have e2 := eq_false h2 | have e2 := eq_true h2
      first | have e3 := eq_false h3 | have e3 := eq_true h3
      simp only [e1, e2, e3, if_true, if_false, Option.map_some]
theorem put_kids {T : PT} {n : Int} {p : Place} {x : PN} (hx : T.get n = some x) (ht : topB n = false) (h : T.kidsOk) : (T.put n p).kidsOk := by
  refine ⟨fun j y' hy' => ?_, fun j y' c hy' => ?_⟩
  · rw [get_put hx] at hy'
    obtain ⟨y, hy, rfl⟩ := Option.map_eq_some_iff.1 hy'
    have h1 := h.nod j y hy
    simp only
    split
    · refine putK_nodup ?_ n
      split
      · exact h1.erase _
      · exact h1
    · split
      · exact h1.erase _
      · exact h1
  · rw [get_put hx] at hy'
    obtain ⟨y, hy, rfl⟩ := Option.map_eq_some_iff.1 hy'
    have h1 := h.nod j y hy
    have h2 := h.mem j y c hy
    have e1 : ∀ d, d ∈ (if j = x.parent then y.kids.erase n else y.kids) ↔ d ∈ y.kids ∧ ¬ (j = x.parent ∧ d = n) := fun d => by
      split
      · rename_i hj
        rw [h1.mem_erase_iff]
        constructor
        · rintro ⟨a, b⟩; exact ⟨b, fun q => a q.2⟩
        · rintro ⟨a, b⟩; exact ⟨fun q => b ⟨hj, q⟩, a⟩
      · rename_i hj
        exact ⟨fun a => ⟨a, fun q => hj q.1⟩, fun a => a.1⟩
    have e2 : c ∈ (if j = p.parent then putK (if j = x.parent then y.kids.erase n else y.kids) n else if j = x.parent then y.kids.erase n else y.kids) ↔ (j = p.parent ∧ c = n) ∨ (c ∈ y.kids ∧ ¬ (j = x.parent ∧ c = n)) := by
      by_cases hj : j = p.parent
      · rw [if_pos hj, mem_putK, e1]
        constructor
        · rintro (a | a)
          · exact .inl ⟨hj, a⟩
          · exact .inr a
        · rintro (a | a)
          · exact .inl a.2
          · exact .inr a
      · rw [if_neg hj, e1]
        exact ⟨.inr, fun a => a.elim (fun q => absurd q.1 hj) id⟩
    simp only
    rw [e2, h2]
    by_cases hc : c = n
    · subst hc
      rw [get_put hx]
      constructor
      · rintro (a | ⟨⟨_, z, hz, hp⟩, b⟩)
        · exact ⟨ht, _, Option.map_eq_some_iff.2 ⟨x, hx, rfl⟩, by simp only [if_true]; exact a.1.symm⟩
        · rw [hx] at hz; cases hz; exact absurd ⟨hp.symm, rfl⟩ b
      · rintro ⟨_, z, hz, hp⟩
        obtain ⟨z', hz', rfl⟩ := Option.map_eq_some_iff.1 hz
        simp only [if_true] at hp
        exact .inl ⟨hp.symm, rfl⟩
    · rw [get_put hx]
      simp only [hc, and_false, false_or, not_false_eq_true, and_true, if_false]
      refine and_congr_right fun _ => ?_
      constructor
      · rintro ⟨z, hz, hp⟩
        exact ⟨_, Option.map_eq_some_iff.2 ⟨z, hz, rfl⟩, hp⟩
      · rintro ⟨z, hz, hp⟩
        obtain ⟨z', hz', rfl⟩ := Option.map_eq_some_iff.1 hz
        exact ⟨z', hz', hp⟩
theorem add_kids {T : PT} {n : Int} (hn : T.get n = none) (hg : VGood T.view) (hn0 : n ≠ 0) (ht : topB n = false) (h : T.kidsOk) : (T.add n).kidsOk := by
  have hpar : ∀ c y, T.get c = some y → topB c = false → y.parent ≠ n := fun c y hy hc e => by
    obtain ⟨k, hk⟩ := hg.led c (by rw [PT.view_get hy]; simp)
    cases k with
    | zero => rw [show topB c = true from hk] at hc; cases hc
    | succ k =>
      obtain ⟨_, a, h1, h2⟩ := hk
      rw [PT.view_get hy] at h1; cases h1
      have h2' : LeadsN T.view k y.parent := h2
      rw [e] at h2'
      cases k with
      | zero => rw [show topB n = true from h2'] at ht; cases ht
      | succ k =>
        obtain ⟨_, a, h1, _⟩ := h2'
        rw [PT.view_none.2 hn] at h1; cases h1
  have h0 : T.get 0 = none := by
    cases h0 : T.get 0 with
    | none => rfl
    | some y => have := hg.pos 0 _ (PT.view_get h0); omega
  refine ⟨fun j y hy => ?_, fun j y c hy => ?_⟩
  · rw [PT.get_add hn] at hy
    split at hy
    · cases hy; exact List.nodup_nil
    · exact h.nod j y hy
  · rw [PT.get_add hn] at hy
    split at hy
    · rename_i e
      cases hy
      refine ⟨fun q => by simp [PN.bare] at q, fun ⟨hc, z, hz, hp⟩ => ?_⟩
      rw [PT.get_add hn] at hz
      split at hz
      · rename_i e2
        cases hz
        have hp : (0 : Int) = j := hp
        exact absurd (e.symm.trans hp.symm) hn0
      · exact absurd (hp.trans e) (hpar c z hz hc)
    · rename_i e
      rw [h.mem j y c hy]
      refine and_congr_right fun hc => ?_
      constructor
      · rintro ⟨z, hz, hp⟩
        refine ⟨z, ?_, hp⟩
        rw [PT.get_add hn, if_neg (fun q => by rw [q, hn] at hz; cases hz)]
        exact hz
      · rintro ⟨z, hz, hp⟩
        rw [PT.get_add hn] at hz
        split at hz
        · cases hz
          have hp : (0 : Int) = j := hp
          rw [← hp, h0] at hy; cases hy
        · exact ⟨z, hz, hp⟩
theorem attr_kids {T : PT} {n : Int} {key value : ByteArray} (h : T.kidsOk) : (T.attr n key value).kidsOk := by
  have hg : ∀ j, (T.attr n key value).get j = (T.get j).map fun y => if j = n then { y with attrs := if value = ⟨#[]⟩ then delS y.attrs key else putS y.attrs key value } else y := fun j => by
    unfold PT.attr
    rw [PT.get_mod]
    cases T.get j with
    | none => split <;> rfl
    | some y => split <;> rfl
  have hk : ∀ j y', (T.attr n key value).get j = some y' → ∃ y, T.get j = some y ∧ y'.kids = y.kids ∧ y'.parent = y.parent := fun j y' hy' => by
    rw [hg] at hy'
    obtain ⟨y, hy, rfl⟩ := Option.map_eq_some_iff.1 hy'
    refine ⟨y, hy, ?_, ?_⟩ <;> split <;> rfl
  have hk' : ∀ j y, T.get j = some y → ∃ y', (T.attr n key value).get j = some y' ∧ y'.parent = y.parent := fun j y hy => by
    refine ⟨_, by rw [hg, hy]; rfl, ?_⟩
    split <;> rfl
  refine ⟨fun j y hy => ?_, fun j y c hy => ?_⟩
  · obtain ⟨z, hz, e, _⟩ := hk j y hy
    rw [e]; exact h.nod j z hz
  · obtain ⟨z, hz, e, _⟩ := hk j y hy
    rw [e, h.mem j z c hz]
    refine and_congr_right fun _ => ?_
    constructor
    · rintro ⟨q, hq, hp⟩
      obtain ⟨q', hq', e'⟩ := hk' c q hq
      exact ⟨q', hq', e'.trans hp⟩
    · rintro ⟨q, hq, hp⟩
      obtain ⟨q', hq', _, e'⟩ := hk c q hq
      exact ⟨q', hq', e'.symm.trans hp⟩
theorem kids_nodes {T T' : PT} (e : T.nodes = T'.nodes) (h : T.kidsOk) : T'.kidsOk := by
  have hg : ∀ n, T'.get n = T.get n := fun n => by unfold PT.get; rw [e]
  exact ⟨fun n x hx => h.nod n x (by rw [← hg]; exact hx), fun n x c hx => by
    rw [h.mem n x c (by rw [← hg]; exact hx)]
    simp only [hg]⟩
theorem does_kids {T : PT} {op : Op} (hg : VGood T.view) (hm : mayA T op = true) (h : T.kidsOk) : (T.does op).kidsOk := by
  have h1 : (({ T with last := T.last + 1 } : PT).acts op).kidsOk := by
    have h0 : ({ T with last := T.last + 1 } : PT).kidsOk := kids_nodes (T := T) rfl h
    unfold PT.acts
    split
    · rename_i k1
      have hn := (may_make hm k1).1
      rw [mayA, if_pos k1] at hm
      simp only [Bool.and_eq_true, decide_eq_true_eq] at hm
      have ht : topB op.node = false := by simp only [topB]; simp; omega
      refine put_kids (x := PN.bare) (by rw [PT.get_add (T := { T with last := T.last + 1 }) hn, if_pos rfl]) ht (add_kids (T := { T with last := T.last + 1 }) hn hg (by omega) ht h0)
    · split
      · rename_i k1 k2
        obtain ⟨x, hx⟩ := may_there hm k1
        rw [mayA, if_neg k1, if_pos k2] at hm
        simp only [Bool.and_eq_true, Bool.not_eq_true'] at hm
        exact put_kids (T := { T with last := T.last + 1 }) hx hm.1.1.1.2 h0
      · exact attr_kids h0
  exact kids_nodes (T := ({ T with last := T.last + 1 } : PT).acts op) rfl h1
end Go.Proofs.YtmjiojflncffeaaGreat.Vc

/- From what a call computes to the row of a law that answers true and leaves its arguments as they were. -/
set_option linter.unusedVariables false
set_option linter.unusedSimpArgs false
namespace Go.Proofs.YtmjiojflncffeaaGreat.Vc
open Go Go.ChangeShapes Go.WideShapes Go.ChangeAt Go.WideElems

section
variable {H : Type} {enc : TypeId × Value → H} {P : Program} {W W' : World}

theorem Kept.old (h : Kept PH.no W W') {k : Nat} (hk : k < W.heap.size) : W'.heap[k]? = W.heap[k]? := h.2.2.2.2 k hk rfl

theorem Kept.but (h : Kept PH.no W W') (may : MemPlace → Prop) : W.keptBut W' may := by
  refine ⟨h.1, h.2.2.1, fun i hi => ?_⟩
  rw [h.old hi]
  cases W.heap[i]? with
  | none => rfl
  | some o => cases o <;> first | exact ⟨rfl, rfl, rfl, fun _ _ => rfl⟩ | exact .inr ⟨rfl, rfl⟩ | rfl

theorem Kept.at (h : Kept PH.no W W') {p : MemPlace} (hp : p.block < W.heap.size) : W.sameAt W' p := by
  cases p with
  | cell b off =>
    show W'.cell? _ = W.cell? _
    have e : W'.heap[b]? = W.heap[b]? := h.old hp
    unfold World.cell?
    simp only [e]
  | map b => exact h.old hp

theorem trodAll_stays (hl : laidOutB P = true) {sp' : Nat → Bool} : ∀ {ts : List TypeId} {vs : List Value} {ds : List (DataW H)} {ps : List MemPlace}, (∀ t ∈ ts, P.readableRec t = true ∧ t < P.types.size) →
    DataW.TrodAll enc P W 0 (fun _ => true) true ts vs ds ps → (∀ p ∈ ps, W.sameAt W' p) → (∀ p ∈ ps, sp' p.block = true) → DataW.TrodAll enc P W' 0 sp' true ts vs ds ps
  | [], vs, ds, ps, _, h, _, _ => by
    obtain ⟨rfl, rfl, rfl⟩ := trodAll_nil h
    exact rfl
  | t :: ts, vs, ds, ps, hr, h, h1, h2 => by
    obtain ⟨v, vs', d, ds', p, q, rfl, rfl, rfl, h3, h4⟩ := trodAll_cons h
    exact ⟨p, q, Trod_stays hl (hr t (by simp)).1 (hr t (by simp)).2 h3 (fun x hx => h1 x (by simp [hx])) (fun x hx => h2 x (by simp [hx])),
      trodAll_stays hl (fun t ht => hr t (by simp [ht])) h4 (fun x hx => h1 x (by simp [hx])) (fun x hx => h2 x (by simp [hx])), rfl⟩

theorem contract_true {f : Nat} {fn : Func} {s : ChangeSpec} {apart fresh handsOn again : Bool} {args : Array Value} {ds gs : List (DataW H)} {before : List MemPlace} {tb : TypeId} (hl : laidOutB P = true)
    (hr : (fn.params.toList.all fun t => P.readableRec t && decide (t < P.types.size)) = true) (hv : s.vars = []) (hres : fn.resultTypes = #[tb]) (htb : P.underlying tb = some .bool)
    (hs : s.fn H (ds ++ gs) = { results := [.lit (.bool true)], args := ds }) (hW : DataW.Whole enc P fn.params.toList s.vars apart W args.toList ds gs before)
    (h : Spec P f args.toList PH.no W fun rs _ => rs = [.s (.bool true)]) :
    Calls P f args W fun e W' => ∃ v, e = .returned v ∧ s.post enc P fn apart fresh handsOn again W args v W' ∧ W.keptBut W' (fun _ => False) := by
  have h0 := h (fun _ _ e => by cases e)
  rw [show args.toList.toArray = args by simp] at h0
  refine h0.mono fun e W' he => ?_
  obtain ⟨rs, m', rfl, _, rfl, _, _, hk⟩ := he
  refine ⟨.bool true, rfl, ?_, hk.but _⟩
  have hW0 := hW
  obtain ⟨p, q, hA, hV, rfl, hfz, hnd⟩ := hW
  rw [hv] at hV
  obtain ⟨rfl, rfl⟩ := trodVars_none hV
  simp only [List.append_nil] at *
  have hall : ∀ t ∈ fn.params.toList, P.readableRec t = true ∧ t < P.types.size := by
    intro t ht
    have := List.all_eq_true.1 hr t ht
    simpa using this
  have hlt := DataW.TrodAll.lt hA
  have hargs : ∀ sp : Nat → Bool, (∀ x ∈ p, sp x.block = true) → DataW.TrodAll enc P W' 0 sp true fn.params.toList args.toList ds p := fun sp hsp =>
    trodAll_stays hl hall hA (fun x hx => hk.at (hlt x hx)) hsp
  have hbool : ∀ (b : Nat) (sp : Nat → Bool) (hd : Bool), DataW.TrodAll enc P W' b sp hd fn.resultTypes.toList ((Value.bool true).resultList fn.resultTypes.size) [.lit (.bool true)] [] := by
    intro b sp hd
    rw [hres]
    exact ⟨[], [], ⟨1, by simp [DataW.trod, htb, Value.cells]⟩, rfl, rfl⟩
  have hcell : ∀ x ∈ p, x.block < W.heap.size := hlt
  refine ⟨ds, [], p, [], p, [], by simpa using hW0, by rw [List.append_nil, hs]; exact hbool _ _ _, by rw [List.append_nil, hs]; exact hargs _ (fun x hx => by simpa using hlt x hx), by rw [hv]; rw [List.append_nil, hs]; exact rfl, hk.but _, fun _ => ⟨?_, ?_⟩⟩
  · intro j t r hj hr'
    rw [hres] at hj hr'
    match j, hj, hr' with
    | 0, hj, hr' =>
      simp [Value.resultList] at hj hr'
      subst hj; subst hr'
      simp [Value.okWide, htb, Cell.okWide, Cell.ok]
  · refine ⟨_, [], p, ⟨[] ++ p, [], trodAll_append (hargs _ (fun _ _ => rfl)) (hbool _ _ _), by rw [hv]; exact rfl, by simp, ?_, fun ha => by simpa using hnd ha⟩, fun x hx _ => hx⟩
    intro b off hp
    have := hfz b off hp
    unfold World.frozen? at this ⊢
    have e : W'.heap[b]? = W.heap[b]? := hk.old (hlt _ hp)
    simp only [e]
    exact this

end

end Go.Proofs.YtmjiojflncffeaaGreat.Vc

/- What a law's arguments are: plain values, cell by cell. -/
set_option linter.unusedVariables false
set_option linter.unusedSimpArgs false
namespace Go.Proofs.YtmjiojflncffeaaGreat.Vc
open Go

/-- A plain cell's kind. -/
inductive K1 where
  | i (k : IntKind)
  | s
  | b
  | sl (t : TypeId)

def kOf (P : Program) (u : TypeId) : Option K1 := match P.underlying u with
  | some (.int k) => some (.i k)
  | some .string => some .s
  | some .bool => some .b
  | _ => none

def K1.is : K1 → Value → Prop
  | .i k, v => ∃ n, v = .int k n ∧ k.has n
  | .s, v => ∃ s, v = .string s ∧ (s.size : Int) ≤ IntKind.i64.max
  | .b, v => ∃ b, v = .bool b
  | .sl _, v => ∃ a n c, v = .slice a n c

/-- A plain value's content. -/
structure Raw where
  x : Nat → Int
  y : Nat → ByteArray
  z : Nat → Bool
  v : Nat → Value

def Raw.at (r : Raw) (i : Nat) : K1 → Value
  | .i k => .int k (r.x i)
  | .s => .string (r.y i)
  | .b => .bool (r.z i)
  | .sl _ => r.v i

def Raw.cells (r : Raw) : List K1 → Nat → List Value
  | [], _ => []
  | k :: l, i => r.at i k :: r.cells l (i + 1)

/-- Its numbers are numbers of their kind. -/
def Raw.fine (r : Raw) : List K1 → Nat → Prop
  | [], _ => True
  | k :: l, i => (match k with | .i k => k.has (r.x i) | .s => ((r.y i).size : Int) ≤ IntKind.i64.max | .b => True | .sl _ => ∃ a n c, r.v i = .slice a n c) ∧ r.fine l (i + 1)

theorem raw_of : ∀ (ks : List K1) (i : Nat) (cs : List Value), cs.length = ks.length → (∀ (j : Nat) (v : Value) (k : K1), cs[j]? = some v → ks[j]? = some k → k.is v) → ∃ r : Raw, cs = r.cells ks i ∧ r.fine ks i
  | [], i, cs, hl, _ => by
    have : cs = [] := by simpa using hl
    subst this
    exact ⟨⟨fun _ => 0, fun _ => ⟨#[]⟩, fun _ => false, fun _ => undef⟩, rfl, trivial⟩
  | k :: ks, i, cs, hl, h => by
    cases cs with
    | nil => simp at hl
    | cons v cs =>
      obtain ⟨r, hr, hf⟩ := raw_of ks (i + 1) cs (by simpa using hl) (fun j v k hj hk => h (j + 1) v k (by simpa using hj) (by simpa using hk))
      have h0 := h 0 v k rfl rfl
      have key : ∀ (r' : Raw), (∀ j, i < j → r'.x j = r.x j ∧ r'.y j = r.y j ∧ r'.z j = r.z j ∧ r'.v j = r.v j) → (∀ l m, i < m → r'.cells l m = r.cells l m) ∧ (∀ l m, i < m → (r'.fine l m ↔ r.fine l m)) := by
        intro r' hs
        constructor
        · intro l
          induction l with
          | nil => intro m _; rfl
          | cons q l ih =>
            intro m hm
            obtain ⟨e1, e2, e3, e4⟩ := hs m hm
            simp only [Raw.cells, ih (m + 1) (by omega)]
            congr 1
            cases q <;> simp [Raw.at, e1, e2, e3, e4]
        · intro l
          induction l with
          | nil => intro m _; exact Iff.rfl
          | cons q l ih =>
            intro m hm
            obtain ⟨e1, e2, e3, e4⟩ := hs m hm
            simp only [Raw.fine, ih (m + 1) (by omega), e1, e2, e4]
      cases k with
      | i k =>
        obtain ⟨n, rfl, hn⟩ := h0
        refine ⟨⟨fun j => if j = i then n else r.x j, r.y, r.z, r.v⟩, ?_, ?_⟩
        · obtain ⟨g1, g2⟩ := key ⟨fun j => if j = i then n else r.x j, r.y, r.z, r.v⟩ (fun j hj => ⟨by simp; omega, rfl, rfl, rfl⟩)
          simp only [Raw.cells, g1 ks (i + 1) (by omega), ← hr, Raw.at, if_true]
        · obtain ⟨g1, g2⟩ := key ⟨fun j => if j = i then n else r.x j, r.y, r.z, r.v⟩ (fun j hj => ⟨by simp; omega, rfl, rfl, rfl⟩)
          exact ⟨by simpa using hn, (g2 ks (i + 1) (by omega)).2 hf⟩
      | s =>
        obtain ⟨n, rfl, hn⟩ := h0
        refine ⟨⟨r.x, fun j => if j = i then n else r.y j, r.z, r.v⟩, ?_, ?_⟩
        · obtain ⟨g1, g2⟩ := key ⟨r.x, fun j => if j = i then n else r.y j, r.z, r.v⟩ (fun j hj => ⟨rfl, by simp; omega, rfl, rfl⟩)
          simp only [Raw.cells, g1 ks (i + 1) (by omega), ← hr, Raw.at, if_true]
        · obtain ⟨g1, g2⟩ := key ⟨r.x, fun j => if j = i then n else r.y j, r.z, r.v⟩ (fun j hj => ⟨rfl, by simp; omega, rfl, rfl⟩)
          exact ⟨by simpa using hn, (g2 ks (i + 1) (by omega)).2 hf⟩
      | b =>
        obtain ⟨n, rfl⟩ := h0
        refine ⟨⟨r.x, r.y, fun j => if j = i then n else r.z j, r.v⟩, ?_, ?_⟩
        · obtain ⟨g1, g2⟩ := key ⟨r.x, r.y, fun j => if j = i then n else r.z j, r.v⟩ (fun j hj => ⟨rfl, rfl, by simp; omega, rfl⟩)
          simp only [Raw.cells, g1 ks (i + 1) (by omega), ← hr, Raw.at, if_true]
        · obtain ⟨g1, g2⟩ := key ⟨r.x, r.y, fun j => if j = i then n else r.z j, r.v⟩ (fun j hj => ⟨rfl, rfl, by simp; omega, rfl⟩)
          exact ⟨trivial, (g2 ks (i + 1) (by omega)).2 hf⟩
      | sl t =>
        obtain ⟨a, n, c, rfl⟩ := h0
        refine ⟨⟨r.x, r.y, r.z, fun j => if j = i then .slice a n c else r.v j⟩, ?_, ?_⟩
        · obtain ⟨g1, g2⟩ := key ⟨r.x, r.y, r.z, fun j => if j = i then .slice a n c else r.v j⟩ (fun j hj => ⟨rfl, rfl, rfl, by simp; omega⟩)
          simp only [Raw.cells, g1 ks (i + 1) (by omega), ← hr, Raw.at, if_true]
        · obtain ⟨g1, g2⟩ := key ⟨r.x, r.y, r.z, fun j => if j = i then .slice a n c else r.v j⟩ (fun j hj => ⟨rfl, rfl, rfl, by simp; omega⟩)
          exact ⟨⟨a, n, c, by simp⟩, (g2 ks (i + 1) (by omega)).2 hf⟩

section
variable {P : Program} {W : World} {r : Reach} {base : Nat} {t : TypeId} {v : Value}

theorem cell_kind {u : TypeId} {k : K1} (hk : kOf P u = some k) (h : Cell.okWide P W r base u v) : k.is v := by
  unfold kOf at hk
  unfold Cell.okWide Cell.ok at h
  cases hu : P.underlying u with
  | none => simp [hu] at hk
  | some d =>
    rw [hu] at hk h
    cases d <;> simp only [Option.some.injEq, reduceCtorEq] at hk <;> subst hk <;> cases v <;> simp only at h <;> first | exact h.elim | skip
    · exact ⟨_, rfl⟩
    · obtain ⟨rfl, h⟩ := h; exact ⟨_, rfl, h⟩
    · exact ⟨_, rfl, h⟩

theorem row_raw {cs : Array Value} {ts : List TypeId} {ks : List K1} (hts : P.cellTypes P.depth t = some ts) (hks : ts.mapM (kOf P) = some ks) (hsz : cs.size = ts.length) (h : Row.okWide P W r base t cs) : ∃ q : Raw, cs = (q.cells ks 0).toArray ∧ q.fine ks 0 := by
  obtain ⟨ts', e, _, h⟩ := h
  rw [hts] at e
  obtain rfl : ts = ts' := by simpa using e
  have hlen : ∀ {l : List TypeId} {m : List K1}, l.mapM (kOf P) = some m → m.length = l.length ∧ ∀ (j : Nat) (u : TypeId) (k : K1), l[j]? = some u → m[j]? = some k → kOf P u = some k := by
    intro l
    induction l with
    | nil => intro m hm; simp at hm; subst hm; exact ⟨rfl, fun j u k h1 => by simp at h1⟩
    | cons a l ih =>
      intro m hm
      simp only [List.mapM_cons, Option.bind_eq_bind, Option.bind_eq_some_iff, Option.pure_def, Option.some.injEq] at hm
      obtain ⟨k0, h1, m', h2, rfl⟩ := hm
      obtain ⟨g1, g2⟩ := ih h2
      refine ⟨by simp [g1], fun j u k h3 h4 => ?_⟩
      cases j with
      | zero => simp at h3 h4; subst h3; subst h4; exact h1
      | succ j => exact g2 j u k (by simpa using h3) (by simpa using h4)
  obtain ⟨g1, g2⟩ := hlen hks
  obtain ⟨q, hq, hf⟩ := raw_of ks 0 cs.toList (by simp [hsz, g1]) (fun j v k hj hk => by
    have hj' : cs[j]? = some v := by simpa using hj
    have hjlt : j < ts.length := by rw [← hsz]; exact (Array.getElem?_eq_some_iff.1 hj').1
    obtain ⟨u, hu, hc⟩ := h j v hj'
    rw [Nat.mod_eq_of_lt hjlt] at hu
    exact cell_kind (g2 j u k hu hk) hc)
  exact ⟨q, by rw [← hq], hf⟩

def agDo : Option TypeDesc → Bool
  | some (.struct _) | some (.array _ _) => true
  | _ => false

/-- An argument of a struct's or an array's type. -/
theorem open_agg {ts : List TypeId} {ks : List K1} (hu : agDo (P.underlying t) = true) (hts : P.cellTypes P.depth t = some ts) (hks : ts.mapM (kOf P) = some ks) (hsz : P.cellsOf t = ts.length) (h : Value.okWide P W r base t v) :
    ∃ q : Raw, v = .agg (q.cells ks 0).toArray ∧ q.fine ks 0 := by
  unfold Value.okWide at h
  have key : (∃ cs, v = .agg cs ∧ cs.size = P.cellsOf t ∧ Row.okWide P W r base t cs) → ∃ q : Raw, v = .agg (q.cells ks 0).toArray ∧ q.fine ks 0 := by
    rintro ⟨cs, rfl, h1, h2⟩
    obtain ⟨q, rfl, hf⟩ := row_raw hts hks (by rw [h1, hsz]) h2
    exact ⟨q, rfl, hf⟩
  cases hd : P.underlying t with
  | none => rw [hd] at hu; cases hu
  | some d =>
    rw [hd] at h hu
    cases d <;> first | (cases hu; done) | exact key h

theorem open_sc {k : K1} (hk : kOf P t = some k) (h : Value.okWide P W r base t v) : k.is v := by
  refine cell_kind (W := W) (r := r) (base := base) hk ?_
  unfold Value.okWide at h
  unfold kOf at hk
  cases hd : P.underlying t with
  | none => rw [hd] at hk; cases hk
  | some d =>
    rw [hd] at h hk
    cases d <;> first | (cases hk; done) | exact h
end


theorem cells_append (q : Raw) : ∀ (a b : List K1) (o : Nat), q.cells (a ++ b) o = q.cells a o ++ q.cells b (o + a.length)
  | [], b, o => by simp [Raw.cells]
  | k :: a, b, o => by
    simp only [List.cons_append, Raw.cells, cells_append q a b (o + 1), List.length_cons]
    rw [show o + 1 + a.length = o + (a.length + 1) by omega]

def kVec : List K1 := List.replicate 8 (.i .i64)
theorem kVec_len : kVec.length = 8 := rfl
theorem gVec_flat (q : Raw) (o : Nat) : GV.flat (gVec fun j => q.x (o + j)) = q.cells kVec o := by
  simp [gVec, GV.flat, kVec, Raw.cells, Raw.at, List.replicate, List.range, List.range.loop]
def kVec2 : List K1 := kVec ++ kVec ++ kVec ++ kVec ++ kVec ++ kVec ++ kVec ++ kVec
theorem kVec2_len : kVec2.length = 64 := rfl
theorem gVec2_flat (q : Raw) (o : Nat) : GV.flat (gVec2 fun i j => q.x (o + i * 8 + j)) = q.cells kVec2 o := by
  have h : ∀ i, GV.flat (gVec fun j => q.x (o + i * 8 + j)) = q.cells kVec (o + i * 8) := fun i => gVec_flat q (o + i * 8)
  simp only [gVec2, GV.flat, List.range, List.range.loop, List.flatMap_cons, List.flatMap_nil, h, kVec2, cells_append, List.length_append, kVec_len]
  simp [Nat.add_assoc]

end Go.Proofs.YtmjiojflncffeaaGreat.Vc

/- What a law's arguments are: cells of structs, slices, slices in structs; and how large. -/
set_option linter.unusedVariables false
set_option linter.unusedSimpArgs false
namespace Go.Proofs.YtmjiojflncffeaaGreat.Vc
open Go Go.ChangeShapes Go.WideShapes Go.ChangeAt

def kFields (g : TypeId → Option (List K1)) (P : Program) : List Field → Nat → Option (List K1)
  | [], _ => some []
  | f :: fs, o => if f.offset = o then (g f.type).bind fun l => if l.length = P.cellsOf f.type then (kFields g P fs (o + l.length)).map (l ++ ·) else none else none

/-- The kinds of a type's cells. -/
def kAll (P : Program) : Nat → TypeId → Option (List K1)
  | 0, _ => none
  | n + 1, t => match P.underlying t with
    | some .bool => some [.b]
    | some (.int k) => some [.i k]
    | some .string => some [.s]
    | some (.slice _) => some [.sl t]
    | some (.struct fs) => (kFields (kAll P n) P fs.toList 0).bind fun l => if l.length = P.cellsOf t then some l else none
    | some (.array m e) => (kAll P n e).bind fun l => if l.length = P.cellsOf e ∧ m * P.cellsOf e = P.cellsOf t then some ((List.range m).flatMap fun _ => l) else none
    | _ => none

section
variable {H : Type} (enc : TypeId × Value → H) (P : Program) (W : World)

/-- A cell that reads, and is not too large. -/
def RdT (t : TypeId) (v : Value) : Prop := ∃ fuel x, DataW.trod enc P W 0 (fun _ => true) true fuel t [v] = some x ∧ (x.1.weights P t).all (· ≤ reachBytes) = true

def KOk (k : K1) (v : Value) : Prop := k.is v ∧ (∀ s, v = .string s → s.size ≤ reachBytes) ∧ ∀ t, k = .sl t → RdT enc P W t v
end

section
variable {H : Type} {enc : TypeId × Value → H} {P : Program} {W : World}

theorem wf_has {k : IntKind} {n : Int} (h : (Lit.int k n).wf = true) : k.has n := by
  simpa [Lit.wf, IntKind.has] using h

theorem all_sub {a b : List Nat} (h : b.all (· ≤ reachBytes) = true) (hs : ∀ x ∈ a, x ∈ b) : a.all (· ≤ reachBytes) = true := by
  rw [List.all_eq_true] at h ⊢
  exact fun x hx => h x (hs x hx)

theorem weightsEach_mem : ∀ {ts : List TypeId} {ds : List (DataW H)} {i : Nat} {t : TypeId} {d : DataW H}, ts[i]? = some t → ds[i]? = some d → ∀ x ∈ d.weights P t, x ∈ DataW.weightsEach P ts ds
  | [], _, i, _, _, h, _ => by simp at h
  | t :: ts, [], i, _, _, _, h => by simp at h
  | t :: ts, d :: ds, 0, _, _, h1, h2 => by
    simp at h1 h2; subst h1; subst h2
    intro x hx; simp [DataW.weightsEach, hx]
  | t :: ts, d :: ds, i + 1, _, _, h1, h2 => by
    intro x hx
    have := weightsEach_mem (ts := ts) (ds := ds) (i := i) (by simpa using h1) (by simpa using h2) x hx
    simp [DataW.weightsEach, this]
theorem weightsAll_mem {e : TypeId} : ∀ {ds : List (DataW H)} {d : DataW H}, d ∈ ds → ∀ x ∈ d.weights P e, x ∈ DataW.weightsAll P e ds
  | [], _, h => by simp at h
  | d :: ds, d', h => by
    intro x hx
    rcases List.mem_cons.1 h with rfl | h
    · simp [DataW.weightsAll, hx]
    · simp [DataW.weightsAll, weightsAll_mem h x hx]

def Kinds (ks : List K1) (cs : List Value) : Prop := cs.length = ks.length ∧ ∀ (j : Nat) (v : Value) (k : K1), cs[j]? = some v → ks[j]? = some k → KOk enc P W k v

theorem Kinds.app {a b : List K1} {cs : List Value} (h1 : Kinds (enc := enc) (P := P) (W := W) a (cs.take a.length)) (h2 : Kinds (enc := enc) (P := P) (W := W) b (cs.drop a.length)) : Kinds (enc := enc) (P := P) (W := W) (a ++ b) cs := by
  obtain ⟨l1, h1⟩ := h1
  obtain ⟨l2, h2⟩ := h2
  simp only [List.length_take, List.length_drop] at l1 l2
  refine ⟨by simp; omega, fun j v k hj hk => ?_⟩
  rcases Nat.lt_or_ge j a.length with hl | hl
  · rw [List.getElem?_append_left hl] at hk
    exact h1 j v k (by rw [List.getElem?_take_of_lt hl]; exact hj) hk
  · rw [List.getElem?_append_right hl] at hk
    exact h2 (j - a.length) v k (by rw [List.getElem?_drop, show a.length + (j - a.length) = j by omega]; exact hj) hk

theorem trod_kinds : ∀ (n : Nat) (fuel : Nat) (t : TypeId) (ks : List K1) (cs : List Value) (x : DataW H × List MemPlace), kAll P n t = some ks → DataW.trod enc P W 0 (fun _ => true) true fuel t cs = some x →
    (x.1.weights P t).all (· ≤ reachBytes) = true → Kinds (enc := enc) (P := P) (W := W) ks cs := by
  intro n
  induction n with
  | zero => intro fuel t ks cs x hk; cases hk
  | succ n ih =>
    intro fuel t ks cs x hk h hw
    unfold kAll at hk
    have single : ∀ (k : K1) (v : Value), KOk enc P W k v → Kinds (enc := enc) (P := P) (W := W) [k] [v] := fun k v hkv => by
      refine ⟨rfl, fun j v' k' hj hk' => ?_⟩
      cases j with
      | zero => simp at hj hk'; subst hj; subst hk'; exact hkv
      | succ j => simp at hj
    cases hu : P.underlying t with
    | none => rw [hu] at hk; cases hk
    | some d =>
      rw [hu] at hk
      cases d with
      | bool =>
        obtain ⟨b, rfl, rfl⟩ := DataW.trod_bool hu h
        simp at hk; subst hk
        exact single _ _ ⟨⟨b, rfl⟩, (fun s hs => by cases hs), fun t e => by cases e⟩
      | int k =>
        obtain ⟨m, rfl, rfl, hwf⟩ := DataW.trod_int hu h
        simp at hk; subst hk
        exact single _ _ ⟨⟨m, rfl, wf_has hwf⟩, (fun s hs => by cases hs), fun t e => by cases e⟩
      | string =>
        obtain ⟨s, rfl, rfl, hl⟩ := DataW.trod_string hu h
        simp at hk; subst hk
        have : s.size ≤ reachBytes := by simpa [DataW.weights] using hw
        exact single _ _ ⟨⟨s, rfl, by unfold reachBytes at this; show (s.size : Int) ≤ 9223372036854775807; omega⟩, (fun s' hs => by cases hs; exact this), fun t e => by cases e⟩
      | slice e =>
        have hcs : ∃ a n c, cs = [.slice a n c] := by
          rcases DataW.trod_slice hu h with ⟨rfl, _⟩ | ⟨a, len, cap, _, _, _, _, rfl, _⟩
          · exact ⟨_, _, _, rfl⟩
          · exact ⟨_, _, _, rfl⟩
        obtain ⟨a, m, c, rfl⟩ := hcs
        simp at hk; subst hk
        refine single _ _ ⟨⟨a, m, c, rfl⟩, (fun s hs => by cases hs), fun t' e' => ?_⟩
        cases e'
        exact ⟨fuel, x, h, hw⟩
      | struct fs =>
        simp only [Option.bind_eq_some_iff] at hk
        obtain ⟨l, hl, hk⟩ := hk
        split at hk
        · rename_i hlen
          simp at hk; subst hk
          obtain ⟨xs, m, _, rfl, hcl, hxl, hf⟩ := DataW.trod_struct hu h
          simp only [DataW.weights, hu] at hw
          have key : ∀ (gs : List Field) (i o : Nat) (l' : List K1), (∀ k f, gs[k]? = some f → fs[i + k]? = some f) → i + gs.length = fs.size → kFields (kAll P n) P gs o = some l' → (cs.drop o).length = l'.length → Kinds (enc := enc) (P := P) (W := W) l' (cs.drop o) := by
            intro gs
            induction gs with
            | nil =>
              intro i o l' _ _ hl' hlen'
              simp [kFields] at hl'; subst hl'
              have : cs.drop o = [] := List.length_eq_zero_iff.mp (by simpa using hlen')
              rw [this]
              exact ⟨rfl, fun j v k hj => by simp at hj⟩
            | cons f gs ihg =>
              intro i o l' hgs hi hl' hlen'
              simp only [kFields] at hl'
              split at hl'
              · rename_i hoff
                simp only [Option.bind_eq_some_iff] at hl'
                obtain ⟨a, ha, hl'⟩ := hl'
                split at hl'
                · rename_i hal
                  simp only [Option.map_eq_some_iff] at hl'
                  obtain ⟨b, hb, rfl⟩ := hl'
                  have hfi := hgs 0 f rfl
                  rw [Nat.add_zero] at hfi
                  have hlt : i < fs.size := by simp at hi; omega
                  have ht := hf i f hfi
                  rw [List.getElem?_eq_getElem (by omega : i < xs.length)] at ht
                  have hk1 := ih m f.type a _ _ ha ht (all_sub hw (fun y hy => weightsEach_mem (i := i) (t := f.type) (d := xs[i].1) (by simp [hfi]) (by simp [List.getElem?_eq_getElem (by omega : i < xs.length)]) y hy))
                  rw [hoff, ← hal] at hk1
                  refine Kinds.app hk1 ?_
                  rw [List.drop_drop]
                  simp only [List.length_append] at hlen'
                  refine ihg (i + 1) (o + a.length) b (fun k f' hk' => ?_) (by simp at hi; omega) hb (by simp only [List.length_drop] at hlen' ⊢; omega)
                  have := hgs (k + 1) f' (by simpa using hk')
                  rw [show i + (k + 1) = i + 1 + k by omega] at this
                  exact this
                · cases hl'
              · cases hl'
          have := key fs.toList 0 0 l (fun k f hk => by simpa using hk) (by simp) hl (by simp [hcl, hlen])
          simpa using this
        · cases hk
      | array m e =>
        simp only [Option.bind_eq_some_iff] at hk
        obtain ⟨l, hl, hk⟩ := hk
        split at hk
        · rename_i hlen
          simp at hk; subst hk
          obtain ⟨xs, q, _, rfl, hcl, hxl, hf⟩ := DataW.trod_array hu h
          simp only [DataW.weights, hu] at hw
          have key : ∀ (r i : Nat), i + r = m → Kinds (enc := enc) (P := P) (W := W) ((List.range r).flatMap fun _ => l) (cs.drop (i * P.cellsOf e)) := by
            intro r
            induction r with
            | zero =>
              intro i hi
              have : cs.drop (i * P.cellsOf e) = [] := List.drop_eq_nil_of_le (by rw [hcl, ← hlen.2, show i = m by omega]; exact Nat.le_refl _)
              rw [this]
              exact ⟨rfl, fun j v k hj => by simp at hj⟩
            | succ r ihr =>
              intro i hi
              have hlt : i < xs.length := by omega
              have ht := hf i (by omega)
              rw [List.getElem?_eq_getElem hlt] at ht
              have hk1 := ih q e l _ _ hl ht (all_sub hw (fun y hy => weightsAll_mem (d := xs[i].1) (List.mem_map.2 ⟨xs[i], List.getElem_mem hlt, rfl⟩) y hy))
              have hr : (List.range (r + 1)).flatMap (fun _ => l) = l ++ (List.range r).flatMap (fun _ => l) := by
                rw [List.range_succ_eq_map, List.flatMap_cons, List.flatMap_map]
              rw [hr]
              rw [← hlen.1] at hk1
              refine Kinds.app (by rw [← hlen.1]; exact hk1) ?_
              rw [List.drop_drop, ← hlen.1]
              have := ihr (i + 1) (by omega)
              rw [← hlen.1, Nat.add_mul, Nat.one_mul] at this
              exact this
          have := key m 0 (by omega)
          simpa using this
        · cases hk
      | _ => cases hk

theorem cells_get (q : Raw) : ∀ (ks : List K1) (i j : Nat) (k : K1), ks[j]? = some k → (q.cells ks i)[j]? = some (q.at (i + j) k)
  | [], i, j, k, h => by simp at h
  | k0 :: ks, i, 0, k, h => by simp at h; subst h; rfl
  | k0 :: ks, i, j + 1, k, h => by
    have := cells_get q ks (i + 1) j k (by simpa using h)
    simp only [Raw.cells, List.getElem?_cons_succ, this]
    rw [show i + 1 + j = i + (j + 1) by omega]

/-- All about a plain struct's cells. -/
def Fine (enc : TypeId × Value → H) (P : Program) (W : World) (ks : List K1) (q : Raw) : Prop := ∀ (j : Nat) (k : K1), ks[j]? = some k → KOk enc P W k (q.at j k)

theorem kinds_raw {ks : List K1} {cs : List Value} (h : Kinds (enc := enc) (P := P) (W := W) ks cs) : ∃ q : Raw, cs = q.cells ks 0 ∧ Fine enc P W ks q := by
  obtain ⟨q, hq, _⟩ := raw_of ks 0 cs h.1 fun j v k hj hk => (h.2 j v k hj hk).1
  refine ⟨q, hq, fun j k hk => ?_⟩
  have := cells_get q ks 0 j k hk
  rw [Nat.zero_add] at this
  exact h.2 j _ k (by rw [hq]; exact this) hk

theorem Fine.int {ks : List K1} {q : Raw} (h : Fine enc P W ks q) {j : Nat} {k : IntKind} (hk : ks[j]? = some (.i k)) : k.has (q.x j) := by
  obtain ⟨n, h1, h2⟩ := (h j _ hk).1
  simp only [Raw.at, Value.int.injEq, true_and] at h1
  rw [h1]; exact h2
theorem Fine.str {ks : List K1} {q : Raw} (h : Fine enc P W ks q) {j : Nat} (hk : ks[j]? = some .s) : (q.y j).size ≤ reachBytes := (h j _ hk).2.1 _ rfl
theorem Fine.rd {ks : List K1} {q : Raw} (h : Fine enc P W ks q) {j : Nat} {t : TypeId} (hk : ks[j]? = some (.sl t)) : RdT enc P W t (q.v j) := (h j _ hk).2.2 t rfl
theorem Fine.slv {ks : List K1} {q : Raw} (h : Fine enc P W ks q) {j : Nat} {t : TypeId} (hk : ks[j]? = some (.sl t)) : (q.v j).oneCell' = true := by
  obtain ⟨a, n, c, e⟩ := (h j _ hk).1
  simp only [Raw.at] at e
  rw [e]; rfl

theorem choose_le {α : Type} {p : Nat → α → Prop} (d : α) : ∀ n, (∀ i, i < n → ∃ x, p i x) → ∃ f : Nat → α, ∀ i, i < n → p i (f i)
  | 0, _ => ⟨fun _ => d, fun i h => by omega⟩
  | n + 1, h => by
    obtain ⟨f, hf⟩ := choose_le d n fun i hi => h i (by omega)
    obtain ⟨x, hx⟩ := h n (by omega)
    refine ⟨fun i => if i = n then x else f i, fun i hi => ?_⟩
    by_cases e : i = n
    · subst e; simpa using hx
    · simp only [e, if_false]; exact hf i (by omega)

theorem flats_get {z : Nat} {n : Nat} {g : Nat → GV} (hz : ∀ i, i < n → (GV.flat (g i)).length = z) {j : Nat} {v : Value} (h : (flats ((List.range n).map g))[j]? = some v) : ∃ i k, i < n ∧ j = i * z + k ∧ k < z ∧ (GV.flat (g i))[k]? = some v := by
  have key : ∀ (r b j : Nat), b + r = n → (flats ((List.range' b r).map g))[j]? = some v → ∃ i k, i < n ∧ j + b * z = i * z + k ∧ k < z ∧ (GV.flat (g i))[k]? = some v := by
    intro r
    induction r with
    | zero => intro b j _ h; simp [flats] at h
    | succ r ih =>
      intro b j hb h
      have e : flats ((List.range' b (r + 1)).map g) = GV.flat (g b) ++ flats ((List.range' (b + 1) r).map g) := by simp [List.range'_succ, flats]
      rw [e] at h
      have hl := hz b (by omega)
      rcases Nat.lt_or_ge j (GV.flat (g b)).length with hj | hj
      · rw [List.getElem?_append_left hj] at h
        exact ⟨b, j, by omega, by omega, by omega, h⟩
      · rw [List.getElem?_append_right hj] at h
        obtain ⟨i, k, h1, h2, h3, h4⟩ := ih (b + 1) _ (by omega) h
        refine ⟨i, k, h1, ?_, h3, h4⟩
        rw [Nat.add_mul, Nat.one_mul] at h2
        omega
  rw [List.range_eq_range'] at h
  obtain ⟨i, k, h1, h2, h3, h4⟩ := key n 0 j (by omega) h
  exact ⟨i, k, h1, by omega, h3, h4⟩

/-- A slice of plain structs. -/
theorem rd_slice {t e : TypeId} {n0 : Nat} {ks : List K1} {v : Value} {g : Raw → GV} (ht : P.underlying t = some (.slice e)) (hk : kAll P n0 e = some ks) (hn : ks.length = P.cellsOf e) (h0 : 0 < P.cellsOf e) (hflat : ∀ q, (g q).flat = q.cells ks 0)
    (hok : ∀ q, (∀ j t', ks[j]? = some (.sl t') → (q.v j).oneCell' = true) → (g q).ok) (hsz : ∀ q, (g q).sz = P.cellsOf e) (h : RdT enc P W t v) :
    ∃ l : List Raw, SlR W.ph v (P.cellsOf e) (l.map g) ∧ l.length * P.bytesOf e ≤ reachBytes ∧ ∀ q ∈ l, Fine enc P W ks q := by
  obtain ⟨fuel, x, hx, hw⟩ := h
  rcases Go.Deep.open_slice ht hx with ⟨hv, rfl⟩ | ⟨a, len, cap, m, n, D, Pl, hv, _, hlc, _, hm, rfl, hel⟩
  · simp at hv; subst hv
    exact ⟨[], ⟨fun x hx => by simp at hx, .inl ⟨rfl, rfl⟩⟩, by simp, fun q hq => by simp at hq⟩
  · simp at hv; subst hv
    simp only [if_true] at hm
    subst hm
    simp only [DataW.weights, ht, List.all_cons, Bool.and_eq_true, decide_eq_true_eq, List.length_map, List.length_range] at hw
    obtain ⟨q, hq⟩ := choose_le (p := fun i q => W.cells? 0 (a.add (i * P.cellsOf e)) (P.cellsOf e) = some (Raw.cells q ks 0) ∧ Fine enc P W ks q) ⟨fun _ => 0, fun _ => ⟨#[]⟩, fun _ => false, fun _ => undef⟩ len fun i hi => by
      obtain ⟨cs', h1, h2⟩ := hel i (by omega)
      have hw' : ((D i).weights P e).all (· ≤ reachBytes) = true := all_sub hw.2 fun y hy => by
        refine List.mem_append_left _ (weightsAll_mem (d := D i) ?_ y hy)
        exact List.mem_map.2 ⟨i, List.mem_range.2 hi, rfl⟩
      obtain ⟨q, hq, hf⟩ := kinds_raw (trod_kinds n0 n e ks cs' _ hk h2 hw')
      exact ⟨q, by rw [← hq]; exact h1, hf⟩
    refine ⟨(List.range len).map q, ⟨fun y hy => ?_, ?_⟩, ?_, fun y hy => ?_⟩
    · rw [List.map_map] at hy
      obtain ⟨i, hi, rfl⟩ := List.mem_map.1 hy
      exact ⟨hok _ fun j t' hj => (hq i (List.mem_range.1 hi)).2.slv hj, hsz _⟩
    · refine .inr ⟨a, m, by simp, by simpa using hlc, fun hc => ?_⟩
      obtain ⟨cs0, h1, _⟩ := hel 0 hc
      obtain ⟨_, hl0, hc0⟩ := World.cells?_some h1
      have hblk : ∃ cs e' fz, a.spot = none ∧ W.heap[a.block]? = some (.cells cs e' fz) := by
        have h2 := hc0 0 h0
        rw [List.getElem?_eq_getElem (by omega)] at h2
        have hab : (a.add (0 * P.cellsOf e)).add 0 = a := by simp [Addr.add]
        rw [hab] at h2
        unfold World.cell? at h2
        split at h2
        · rename_i c ty fz hb
          split at h2
          · cases h2
          · rename_i hs
            exact ⟨c, ty, fz, by simpa using hs, hb⟩
        · cases h2
      obtain ⟨cs, e', fz, hsp, hb⟩ := hblk
      refine ⟨cs, e', fz, hsp, hb, fun j v hj => ?_⟩
      rw [List.map_map] at hj
      obtain ⟨i, k, hi, rfl, hkz, hv⟩ := flats_get (z := P.cellsOf e) (g := g ∘ q) (fun i hi => by
        simp only [Function.comp, hflat]
        have := (hq i hi).1
        obtain ⟨_, hl, _⟩ := World.cells?_some this
        exact hl) hj
      obtain ⟨h1, _⟩ := hq i hi
      obtain ⟨_, hl, hc⟩ := World.cells?_some h1
      have h2 := hc k hkz
      simp only [Function.comp, hflat] at hv
      rw [hv] at h2
      unfold World.cell? at h2
      obtain ⟨b, o, sp⟩ := a
      simp only at hsp hb
      subst hsp
      rw [addr_add, addr_add] at h2
      simp only [hb] at h2
      simpa [Nat.add_assoc] using h2
    · simp only [List.length_map, List.length_range]
      have := hw.1
      have : len * P.bytesOf e ≤ (len + (m - len)) * P.bytesOf e := Nat.mul_le_mul_right _ (by omega)
      omega
    · obtain ⟨i, hi, rfl⟩ := List.mem_map.1 hy
      exact (hq i (List.mem_range.1 hi)).2

/-! ### A law's arguments -/
/-- An argument that reads. -/
def RdV (enc : TypeId × Value → H) (P : Program) (W : World) (t : TypeId) (v : Value) : Prop := ∃ fuel x, DataW.trod enc P W 0 (fun _ => true) true fuel t v.cells.toList = some x ∧ (x.1.weights P t).all (· ≤ reachBytes) = true

def RdVs (enc : TypeId × Value → H) (P : Program) (W : World) (base : Nat) : List TypeId → List Value → Prop
  | [], [] => True
  | t :: ts, v :: vs => (RdV enc P W t v ∧ Value.okWide P W .any base t v) ∧ RdVs enc P W base ts vs
  | _, _ => False

theorem args_rd {base : Nat} : ∀ {ts : List TypeId} {vs : List Value} {ds : List (DataW H)} {ps : List MemPlace}, (∀ (j : Nat) t v, ts[j]? = some t → vs[j]? = some v → Value.okWide P W .any base t v) →
    DataW.TrodAll enc P W 0 (fun _ => true) true ts vs ds ps → (DataW.weightsEach P ts ds).all (· ≤ reachBytes) = true → RdVs enc P W base ts vs
  | [], vs, ds, ps, _, h, _ => by
    match vs, ds, h with
    | [], [], _ => trivial
  | t :: ts, vs, ds, ps, hv, h, hw => by
    obtain ⟨v, vs', d, ds', p, q, rfl, rfl, rfl, ⟨fuel, h3⟩, h4⟩ := trodAll_cons h
    simp only [DataW.weightsEach, List.all_append, Bool.and_eq_true] at hw
    exact ⟨⟨⟨fuel, _, h3, hw.1⟩, hv 0 t v rfl rfl⟩, args_rd (fun j t v h1 h2 => hv (j + 1) t v (by simpa using h1) (by simpa using h2)) h4 hw.2⟩

theorem rdvs_cons {base : Nat} {t : TypeId} {ts : List TypeId} {vs : List Value} (h : RdVs enc P W base (t :: ts) vs) : ∃ v vs', vs = v :: vs' ∧ RdV enc P W t v ∧ Value.okWide P W .any base t v ∧ RdVs enc P W base ts vs' := by
  cases vs with
  | nil => exact h.elim
  | cons v vs => exact ⟨v, vs, rfl, h.1.1, h.1.2, h.2⟩
theorem rdvs_nil {base : Nat} {vs : List Value} (h : RdVs enc P W base [] vs) : vs = [] := by
  cases vs with
  | nil => rfl
  | cons v vs => exact h.elim

/-- A struct. -/
theorem rdv_agg {base : Nat} {t : TypeId} {v : Value} {n0 : Nat} {ks : List K1} {g : Raw → GV} (hu : agDo (P.underlying t) = true) (hk : kAll P n0 t = some ks) (hflat : ∀ q, (g q).flat = q.cells ks 0) (hs : ∀ q v, g q ≠ .s v)
    (h : RdV enc P W t v) (hv : Value.okWide P W .any base t v) : ∃ q : Raw, v = (g q).val ∧ Fine enc P W ks q := by
  obtain ⟨fuel, x, hx, hw⟩ := h
  obtain ⟨q, hq, hf⟩ := kinds_raw (trod_kinds n0 fuel t ks _ _ hk hx hw)
  refine ⟨q, ?_, hf⟩
  have : ∃ cs, v = .agg cs := by
    unfold Value.okWide at hv
    cases hd : P.underlying t with
    | none => rw [hd] at hu; cases hu
    | some d =>
      rw [hd] at hv hu
      cases d <;> first | (cases hu; done) | (obtain ⟨cs, rfl, _⟩ := hv; exact ⟨cs, rfl⟩)
  obtain ⟨cs, rfl⟩ := this
  simp only [Value.cells] at hq
  rw [show (g q).val = .agg ((g q).flat).toArray by
    have := hs q
    cases hg : g q with
    | s v => exact absurd hg (this v)
    | u => rfl
    | c a b => rfl
    | ar a b c => rfl]
  rw [hflat, ← hq]

theorem cells_one {v w : Value} (h : v.cells.toList = [w]) (hv : ∀ cs, v ≠ .agg cs) : v = w := by
  cases v <;> first | (simpa [Value.cells] using h) | exact absurd rfl (hv _)

theorem ok_noagg {base : Nat} {t : TypeId} {v : Value} {d : TypeDesc} (hu : P.underlying t = some d) (hd : agDo (some d) = false) (hv : Value.okWide P W .any base t v) : ∀ cs, v ≠ .agg cs := by
  intro cs e
  subst e
  unfold Value.okWide at hv
  rw [hu] at hv
  cases d <;> first | (cases hd; done) | (simp only [Cell.okWide, Cell.ok, hu] at hv)

/-- A number, a string, a bool. -/
theorem rdv_sc {base : Nat} {t : TypeId} {v : Value} {k : K1} (hk : kAll P 1 t = some [k]) (ha : agDo (P.underlying t) = false) (h : RdV enc P W t v) (hv : Value.okWide P W .any base t v) : KOk enc P W k v := by
  obtain ⟨fuel, x, hx, hw⟩ := h
  have hK := trod_kinds 1 fuel t [k] _ _ hk hx hw
  have hl := hK.1
  match hc : v.cells.toList, hl with
  | [w], _ =>
    have hu : ∃ d, P.underlying t = some d := by
      cases hd : P.underlying t with
      | none => simp [kAll, hd] at hk
      | some d => exact ⟨d, rfl⟩
    obtain ⟨d, hu⟩ := hu
    rw [hu] at ha
    have := cells_one hc (ok_noagg hu ha hv)
    subst this
    exact hK.2 0 v k (by rw [hc]; rfl) rfl

/-- A slice as an argument. -/
theorem rdv_slice {base : Nat} {t e : TypeId} {v : Value} (ht : P.underlying t = some (.slice e)) (h : RdV enc P W t v) (hv : Value.okWide P W .any base t v) : RdT enc P W t v := by
  obtain ⟨fuel, x, hx, hw⟩ := h
  have hcs : ∃ w, v.cells.toList = [w] := by
    rcases DataW.trod_slice ht hx with ⟨h1, _⟩ | ⟨a, len, cap, _, _, _, _, h1, _⟩
    · exact ⟨_, h1⟩
    · exact ⟨_, h1⟩
  obtain ⟨w, hc⟩ := hcs
  have := cells_one hc (ok_noagg ht rfl hv)
  subst this
  exact ⟨fuel, x, by rw [← hc]; exact hx, hw⟩
end
end Go.Proofs.YtmjiojflncffeaaGreat.Vc

/- A law's row out of its contract. -/
set_option linter.unusedVariables false
set_option linter.unusedSimpArgs false
namespace Go.Proofs.YtmjiojflncffeaaGreat.Vc
open Go Go.ChangeShapes Go.WideShapes Go.ChangeAt

theorem trodAll_len {H : Type} {enc : TypeId × Value → H} {P : Program} {W : World} : ∀ {ts : List TypeId} {vs : List Value} {ds : List (DataW H)} {ps : List MemPlace}, DataW.TrodAll enc P W 0 (fun _ => true) true ts vs ds ps → ds.length = ts.length
  | [], vs, ds, ps, h => by
    match vs, ds, h with
    | [], [], _ => rfl
  | t :: ts, vs, ds, ps, h => by
    obtain ⟨v, vs', d, ds', p, q, rfl, rfl, rfl, _, h4⟩ := trodAll_cons h
    simp [trodAll_len h4]

theorem law_lifted {C : Checked} {os : Os} {f : FuncId} {fn : Func} {s : ChangeSpec} {conds : List PathCond} {H : Type} {enc : TypeId × Value → H} {tb : TypeId} {ts : List TypeId}
    (own : ownKnob C.prog.godebug = none) (hl : laidOutB C.prog = true) (started : os.Started) (noInit : C.prog.inits.idxOf? f = none) (hfn : C.prog.funcs[f]? = some fn)
    (witness : ∃ (w : World) (tape : Tape) (i : Input), w.os = os ∧ (w.forCall tape i).Shaped C.prog ∧ i.vars = [] ∧ Input.okWide C.prog (w.forCall tape i) .any w.heap.size f i ∧
      s.pre6 enc C.prog fn conds false (w.forCall tape i).memory i.args ∧ ({} : Assume).holds C.prog (lone (Frame.enter C.prog f i.args .normal) [] (w.forCall tape i)))
    (hr : (fn.params.toList.all fun t => C.prog.readableRec t && decide (t < C.prog.types.size)) = true) (hv : s.vars = []) (hres : fn.resultTypes = #[tb]) (htb : C.prog.underlying tb = some .bool)
    (hts : fn.params.toList = ts) (hs : ∀ ds : List (DataW H), ds.length = ts.length → s.fn H ds = { results := [.lit (.bool true)], args := ds })
    (h : ∀ W base vs, RdVs enc C.prog W base ts vs → W.ShapedOpen C.prog → Spec C.prog f vs PH.no W fun rs _ => rs = [.s (.bool true)]) :
    ReturnsInHanded {} C os f .any (s.pre6 enc C.prog fn conds false) (s.post enc C.prog fn false true false false) := by
  refine returnsInHanded_of_change_shaped own started noInit hfn witness ?_
  intro W base args ds gs before hval hW hcnd hwt hsh _
  have hW' := hW
  obtain ⟨p, q, hA, hV, rfl, hfz, hnd⟩ := hW'
  rw [hv] at hV
  obtain ⟨rfl, rfl⟩ := trodVars_none hV
  have hvt : s.plain.varTypes C.prog = [] := by
    have : s.plain.vars = [] := hv
    simp [DataSpec.varTypes, this]
  rw [hvt, List.append_nil, List.append_nil] at hwt
  have hlen := trodAll_len hA
  exact (contract_true (again := false) hl hr hv hres htb (by rw [List.append_nil]; exact hs ds (by rw [hlen, hts])) hW (h W base args.toList (hts ▸ args_rd (fun j t v h1 h2 => hval j t v (by simpa using h1) (by simpa using h2)) hA hwt) hsh)).mono fun e W' ⟨v, h1, h2, _⟩ => ⟨v, h1, h2⟩
end Go.Proofs.YtmjiojflncffeaaGreat.Vc

/- A law's row out of its contract, where what is read is of bounded bulk; over listed variables. -/
set_option linter.unusedVariables false
set_option linter.unusedSimpArgs false
namespace Go.Proofs.YtmjiojflncffeaaGreat.Vc
open Go Go.Proofs Go.Proofs.YtmjiojflncffeaaGreat Go.ChangeShapes Go.WideShapes Go.ChangeAt

section
variable {H : Type} {enc : TypeId × Value → H} {P : Program} {W : World}

theorem bulk_one_le (d : DataW H) : 1 ≤ Rows.uptoBulk d := by
  cases d with
  | lit l => cases l <;> simp [Rows.uptoBulk]
  | _ => simp [Rows.uptoBulk]
theorem bulk_app (l r : List (DataW H)) : Rows.uptoBulkAll (l ++ r) = Rows.uptoBulkAll l + Rows.uptoBulkAll r := by
  induction l with
  | nil => simp [Rows.uptoBulkAll]
  | cons x l ih => simp only [List.cons_append, Rows.uptoBulkAll, ih]; omega

/-- An argument that reads, of so much bulk. -/
def RdB (enc : TypeId × Value → H) (P : Program) (W : World) (t : TypeId) (v : Value) (n : Nat) : Prop := ∃ fuel x, DataW.trod enc P W 0 (fun _ => true) true fuel t v.cells.toList = some x ∧ (x.1.weights P t).all (· ≤ reachBytes) = true ∧ Rows.uptoBulk x.1 = n
def RdBs (enc : TypeId × Value → H) (P : Program) (W : World) (base : Nat) : List TypeId → List Value → Nat → Prop
  | [], [], _ => True
  | t :: ts, v :: vs, n => ∃ a b, a + b ≤ n ∧ (RdB enc P W t v a ∧ Value.okWide P W .any base t v) ∧ RdBs enc P W base ts vs b
  | _, _, _ => False
theorem RdB.v {t : TypeId} {v : Value} {n : Nat} (h : RdB enc P W t v n) : RdV enc P W t v := by
  obtain ⟨fuel, x, h1, h2, _⟩ := h
  exact ⟨fuel, x, h1, h2⟩

theorem args_rdb {base : Nat} : ∀ {ts : List TypeId} {vs : List Value} {ds : List (DataW H)} {ps : List MemPlace} {n : Nat}, (∀ (j : Nat) t v, ts[j]? = some t → vs[j]? = some v → Value.okWide P W .any base t v) →
    DataW.TrodAll enc P W 0 (fun _ => true) true ts vs ds ps → (DataW.weightsEach P ts ds).all (· ≤ reachBytes) = true → Rows.uptoBulkAll ds ≤ n → RdBs enc P W base ts vs n
  | [], vs, ds, ps, n, _, h, _, _ => by
    match vs, ds, h with
    | [], [], _ => trivial
  | t :: ts, vs, ds, ps, n, hv, h, hw, hn => by
    obtain ⟨v, vs', d, ds', p, q, rfl, rfl, rfl, ⟨fuel, h3⟩, h4⟩ := trodAll_cons h
    simp only [DataW.weightsEach, List.all_append, Bool.and_eq_true] at hw
    simp only [Rows.uptoBulkAll] at hn
    exact ⟨Rows.uptoBulk d, Rows.uptoBulkAll ds', hn, ⟨⟨fuel, _, h3, hw.1, rfl⟩, hv 0 t v rfl rfl⟩, args_rdb (fun j t v h1 h2 => hv (j + 1) t v (by simpa using h1) (by simpa using h2)) h4 hw.2 (Nat.le_refl _)⟩

theorem rdbs_cons {base : Nat} {t : TypeId} {ts : List TypeId} {vs : List Value} {n : Nat} (h : RdBs enc P W base (t :: ts) vs n) : ∃ v vs' a b, vs = v :: vs' ∧ a + b ≤ n ∧ RdB enc P W t v a ∧ Value.okWide P W .any base t v ∧ RdBs enc P W base ts vs' b := by
  cases vs with
  | nil => exact h.elim
  | cons v vs =>
    obtain ⟨a, b, h1, h2, h3⟩ := h
    exact ⟨v, vs, a, b, rfl, h1, h2.1, h2.2, h3⟩
theorem rdbs_nil {base : Nat} {vs : List Value} {n : Nat} (h : RdBs enc P W base [] vs n) : vs = [] := by
  cases vs with
  | nil => rfl
  | cons v vs => exact h.elim

/-- A string. -/
theorem rdb_str {base : Nat} {t : TypeId} {v : Value} {n : Nat} (ht : P.underlying t = some .string) (h : RdB enc P W t v n) (hv : Value.okWide P W .any base t v) : ∃ s : ByteArray, v = .string s ∧ s.size + 1 = n := by
  obtain ⟨fuel, x, hx, _, hn⟩ := h
  obtain ⟨s, hc, rfl, _⟩ := DataW.trod_string ht hx
  have := cells_one hc (ok_noagg ht rfl hv)
  subst this
  refine ⟨s, rfl, ?_⟩
  rw [← hn]
  simp only [Rows.uptoBulk, Array.length_toList]
  rfl
/-- Strings. -/
theorem rdb_strs {base : Nat} {t e : TypeId} {v : Value} {n : Nat} (ht : P.underlying t = some (.slice e)) (he : P.underlying e = some .string) (hc : P.cellsOf e = 1) (h : RdB enc P W t v n) (hv : Value.okWide P W .any base t v) :
    ∃ ps : List ByteArray, SlR W.ph v 1 (ps.map fun s => .s (.string s)) ∧ (ps.map ByteArray.size).sum + ps.length ≤ n := by
  obtain ⟨fuel, x, hx, _, hn⟩ := h
  have hw1 : ∃ w, v.cells.toList = [w] := by
    rcases DataW.trod_slice ht hx with ⟨h1, _⟩ | ⟨a, len, cap, _, _, _, _, h1, _⟩
    · exact ⟨_, h1⟩
    · exact ⟨_, h1⟩
  obtain ⟨w, hcl⟩ := hw1
  have := cells_one hcl (ok_noagg ht rfl hv)
  subst this
  rw [hcl] at hx
  rcases Go.Deep.open_slice1 ht hc hx with ⟨hv', rfl⟩ | ⟨a, len, cap, m, k, V, D, Pl, hv', _, hlc, _, hm, rfl, hel⟩
  · simp at hv'; subst hv'
    exact ⟨[], ⟨fun x hx => by simp at hx, .inl ⟨rfl, rfl⟩⟩, by simp⟩
  · simp at hv'; subst hv'
    simp only [if_true] at hm
    subst hm
    have hs : ∀ i, i < m → ∃ s : ByteArray, V i = .string s ∧ D i = .lit (.string s.data.toList) := by
      intro i hi
      obtain ⟨s, h1, h2, _⟩ := DataW.trod_string he (hel i hi).2
      simp only [List.cons.injEq, and_true] at h1
      exact ⟨s, h1, by simpa using congrArg Prod.fst h2⟩
    obtain ⟨f, hf⟩ := choose_le (p := fun i s => V i = .string s ∧ D i = .lit (.string s.data.toList)) (⟨#[]⟩ : ByteArray) m hs
    refine ⟨(List.range len).map f, ⟨fun y hy => ?_, .inr ⟨a, m, by simp, by simpa using hlc, fun h0 => ?_⟩⟩, ?_⟩
    · rw [List.map_map] at hy
      obtain ⟨i, _, rfl⟩ := List.mem_map.1 hy
      exact ⟨rfl, rfl⟩
    · obtain ⟨h1, _⟩ := hel 0 h0
      have hblk : ∃ cs e' fz, a.spot = none ∧ W.heap[a.block]? = some (.cells cs e' fz) := by
        have hab : a.add 0 = a := by simp [Addr.add]
        rw [hab] at h1
        unfold World.cell? at h1
        split at h1
        · rename_i c ty fz hb
          split at h1
          · cases h1
          · rename_i hs'
            exact ⟨c, ty, fz, by simpa using hs', hb⟩
        · cases h1
      obtain ⟨cs, e', fz, hsp, hb⟩ := hblk
      refine ⟨cs, e', fz, hsp, hb, fun j y hj => ?_⟩
      rw [List.map_map] at hj
      obtain ⟨i, k', hi, rfl, hk, hy⟩ := flats_get (z := 1) (g := (fun s : ByteArray => GV.s (.string s)) ∘ f) (fun i hi => rfl) hj
      obtain rfl : k' = 0 := by omega
      simp only [Function.comp, GV.flat, List.getElem?_cons_zero, Option.some.injEq] at hy
      subst hy
      have h2 := (hel i (by omega)).1
      rw [(hf i (by omega)).1] at h2
      unfold World.cell? at h2
      obtain ⟨b, o, sp⟩ := a
      simp only at hsp hb
      subst hsp
      rw [addr_add] at h2
      simp only [hb] at h2
      simpa [Nat.add_assoc] using h2
    · rw [← hn]
      have key : ∀ (r b : Nat), b + r ≤ m → Rows.uptoBulkAll ((List.range' b r).map D) = (((List.range' b r).map f).map ByteArray.size).sum + r := by
        intro r
        induction r with
        | zero => intro b _; simp [Rows.uptoBulkAll]
        | succ r ih =>
          intro b hb
          have := ih (b + 1) (by omega)
          rw [List.range'_succ]
          simp only [List.map_cons, Rows.uptoBulkAll, List.sum_cons, this, (hf b (by omega)).2, Rows.uptoBulk]
          have : (f b).data.toList.length = (f b).size := Array.length_toList
          omega
      have := key len 0 (by omega)
      rw [← List.range_eq_range'] at this
      simp only [Rows.uptoBulk, this, List.length_map, List.length_range]
      omega
end

theorem law_lifted_upto {C : Checked} {os : Os} {f : FuncId} {fn : Func} {s : ChangeSpec} {H : Type} {enc : TypeId × Value → H} {tb : TypeId} {ts : List TypeId} {laid : List (String × DataW Unit)} {F : Stop.Interp}
    (own : ownKnob C.prog.godebug = none) (hl : laidOutB C.prog = true) (started : os.Started) (noInit : C.prog.inits.idxOf? f = none) (hfn : C.prog.funcs[f]? = some fn)
    (witness : ∃ (w : World) (tape : Tape) (i : Input), w.os = os ∧ (w.forCall tape i).Shaped C.prog ∧ i.vars = [] ∧ Input.okWide C.prog (w.forCall tape i) .any w.heap.size f i ∧
      (Rows.OpenSpec.upto s).preRow enc C.prog fn [] false laid (w.forCall tape i).memory i.args ∧ ({} : Assume).holds C.prog (lone (Frame.enter C.prog f i.args .normal) [] (w.forCall tape i)))
    (hr : (fn.params.toList.all fun t => C.prog.readableRec t && decide (t < C.prog.types.size)) = true) (hv : s.vars = []) (hres : fn.resultTypes = #[tb]) (htb : C.prog.underlying tb = some .bool)
    (hts : fn.params.toList = ts) (hs : ∀ ds : List (DataW H), ds.length = ts.length → s.fn H ds = { results := [.lit (.bool true)], args := ds })
    (h : ∀ W base vs, RdBs enc C.prog W base ts vs 1048576 → W.ShapedOpen C.prog → Spec C.prog f vs PH.no W fun rs _ => rs = [.s (.bool true)]) :
    ReturnsInHanded {} C os f .any ((Rows.OpenSpec.upto s).preRow enc C.prog fn [] false laid) (((Rows.OpenSpec.upto s).at F).post enc C.prog fn false true false false) := by
  refine returnsInHanded_of_row (C := C) (s := Rows.OpenSpec.upto s) own started noInit hfn witness ?_
  intro W base args ds gs before hval hW _ hcond hwt _ hsh _
  have hW' := hW
  obtain ⟨p, q, hA, hV, rfl, hfz, hnd⟩ := hW'
  have hv' : (Rows.OpenSpec.upto s).vars = [] := hv
  rw [hv'] at hV
  obtain ⟨rfl, rfl⟩ := trodVars_none hV
  have hvt : (Rows.OpenSpec.upto s).bare.plain.varTypes C.prog = [] := by
    have : (Rows.OpenSpec.upto s).bare.plain.vars = [] := hv
    simp [DataSpec.varTypes, this]
  rw [hvt, List.append_nil, List.append_nil] at hwt
  have hk := of_decide_eq_true (hcond _ rfl)
  rw [List.append_nil] at hk
  have hlen := trodAll_len hA
  exact (contract_true (s := s) (again := false) hl hr hv hres htb (by rw [List.append_nil]; exact hs ds (by rw [hlen, hts])) hW (h W base args.toList (hts ▸ args_rdb (fun j t v h1 h2 => hval j t v (by simpa using h1) (by simpa using h2)) hA hwt hk) hsh)).mono fun e W' ⟨v, h1, h2, _⟩ => ⟨v, h1, h2⟩
end Go.Proofs.YtmjiojflncffeaaGreat.Vc

/- Lists of operations that came in. -/
set_option linter.unusedVariables false
set_option linter.unusedSimpArgs false
set_option maxRecDepth 100000
namespace Go.Proofs.YtmjiojflncffeaaGreat.Vc
open Go Go.Proofs Go.Proofs.YtmjiojflncffeaaGreat Go.ChangeShapes Go.WideShapes Go.ChangeAt

def OpOk (op : Op) : Prop := (Lit.int .i64 op.node).wf = true ∧ op.name.size ≤ 140737488355328
def Stamp.ofRaw (q : Raw) (o : Nat) : Stamp := ⟨q.x o, q.x (o + 1)⟩
def kStamp : List K1 := [.i .i64] ++ ([.i .i64])
theorem kStamp_len : kStamp.length = 2 := rfl
theorem gStamp_flat (q : Raw) (o : Nat) : GV.flat (gStamp (Stamp.ofRaw q o)) = q.cells kStamp o := by
  simp only [gStamp, Stamp.ofRaw, kStamp, GV.flat, cells_append, List.length_append, List.length_cons, List.length_nil, kVec_len, kVec2_len, gVec_flat, gVec2_flat]
  simp [Raw.cells, Raw.at, Nat.add_assoc]
def Op.ofRaw (q : Raw) (o : Nat) : Op := ⟨Stamp.ofRaw q o, q.x (o + 2), q.x (o + 3), q.x (o + 4), q.y (o + 5), q.y (o + 6), q.y (o + 7)⟩
def kOp : List K1 := kStamp ++ ([.i .i64] ++ ([.i .i64] ++ ([.i .i64] ++ ([.s] ++ ([.s] ++ ([.s]))))))
theorem kOp_len : kOp.length = 8 := rfl
theorem gOp_flat (q : Raw) (o : Nat) : GV.flat (gOp (Op.ofRaw q o)) = q.cells kOp o := by
  simp only [gOp, Op.ofRaw, kOp, GV.flat, cells_append, List.length_append, List.length_cons, List.length_nil, kVec_len, kVec2_len, kStamp_len, gVec_flat, gVec2_flat, gStamp_flat]
  simp [Raw.cells, Raw.at, Nat.add_assoc]


theorem Try_own : ownKnob Tryz.prog.godebug = none := by kernel_rfl
theorem Try_laidOut : laidOutB Tryz.prog = true := by kernel_rfl
theorem cells_Op : Tryz.prog.cellsOf 26 = 8 := by kernel_rfl

theorem bulk_len {H : Type} (l : List (DataW H)) : l.length ≤ Rows.uptoBulkAll l := by
  induction l with
  | nil => simp
  | cons x l ih => have := bulk_one_le x; simp only [Rows.uptoBulkAll, List.length_cons]; omega

/-- A list of operations that came in. -/
theorem open_Ops {H : Type} {enc : TypeId × Value → H} {W : World} {base n : Nat} {v : Value} (h : RdB enc Tryz.prog W 22 v n) (hv : Value.okWide Tryz.prog W .any base 22 v) : ∃ l : List Op, SlR W.ph v 8 (l.map gOp) ∧ l.length ≤ n ∧ ∀ op ∈ l, OpOk op := by
  have hd := rdv_slice (e := 26) (by kernel_rfl) h.v hv
  obtain ⟨l, h1, _, h3⟩ := rd_slice (t := 22) (e := 26) (n0 := 9) (ks := kOp) (g := fun q => gOp (Op.ofRaw q 0)) (by kernel_rfl) (by kernel_rfl) (by kernel_rfl) (by rw [cells_Op]; omega) (fun q => gOp_flat q 0) (fun q _ => gOp_ok _) (fun q => by rw [gOp_sz, cells_Op]) hd
  rw [cells_Op] at h1
  refine ⟨l.map fun q => Op.ofRaw q 0, by rw [List.map_map]; exact h1, ?_, ?_⟩
  · obtain ⟨fuel, x, hx, _, hn⟩ := h
    obtain ⟨_, h1 | ⟨a, c, h1, _⟩⟩ := h1
    · have : l = [] := by simpa using h1.2
      simp [this]
    · subst h1
      have hx' : DataW.trod enc Tryz.prog W 0 (fun _ => true) true fuel 22 [.slice (some a) (l.map fun q => gOp (Op.ofRaw q 0)).length c] = some x := hx
      rcases Go.Deep.open_slice (e := 26) (by kernel_rfl) hx' with ⟨hv', rfl⟩ | ⟨a', len, cap, m, n', D, Pl, hv', _, hlc, _, hm, rfl, hel⟩
      · simp at hv'
      · simp only [List.cons.injEq, Value.slice.injEq, and_true, List.length_map] at hv'
        have h5 := bulk_len ((List.range len).map D)
        rw [List.length_map, List.length_range] at h5
        simp only [Rows.uptoBulk] at hn
        rw [List.length_map]
        omega
  · intro op hop
    obtain ⟨q, hq, rfl⟩ := List.mem_map.1 hop
    have hf := h3 q hq
    refine ⟨?_, ?_⟩
    · have := hf.int (j := 3) (k := .i64) rfl
      show (decide (IntKind.i64.min ≤ q.x 3) && decide (q.x 3 ≤ IntKind.i64.max)) = true
      rw [Bool.and_eq_true]
      exact ⟨decide_eq_true this.1, decide_eq_true this.2⟩
    · have := hf.str (j := 5) rfl
      exact Nat.le_trans this (by decide)

end Go.Proofs.YtmjiojflncffeaaGreat.Vc

/- Does a node come under the root? -/
set_option linter.unusedVariables false
set_option linter.unusedSimpArgs false
set_option maxRecDepth 100000
namespace Go.Proofs.YtmjiojflncffeaaGreat.Vc
open Go Go.Proofs

def opB : Op := ⟨zStamp, 1, 5, 1, ⟨#[97]⟩, ⟨#[]⟩, ⟨#[]⟩⟩
theorem begun_may : mayA T0 opB = true := by decide
def T1 : PT := ⟨[(1, ⟨0, ⟨#[]⟩, [], [5]⟩), (2, PN.bare), (5, ⟨1, ⟨#[97]⟩, [], []⟩)], [1], 1⟩
theorem begun_does : T0.does opB = T1 := by rfl

end Go.Proofs.YtmjiojflncffeaaGreat.Vc

/- The code of some functions of the program, its types resolved: printed by a program of this claim. -/
set_option linter.unusedVariables false
set_option maxRecDepth 100000
namespace Go.Proofs.YtmjiojflncffeaaGreat.Vc
open Go Go.Proofs

end Go.Proofs.YtmjiojflncffeaaGreat.Vc

/- A tree by operations. -/
set_option linter.unusedVariables false
set_option linter.unusedSimpArgs false
set_option maxRecDepth 100000
namespace Go.Proofs.YtmjiojflncffeaaGreat.Vc
open Go Go.Proofs

end Go.Proofs.YtmjiojflncffeaaGreat.Vc

/- TreeBack, the walk. -/
set_option linter.unusedVariables false
set_option linter.unusedSimpArgs false
set_option maxRecDepth 100000
namespace Go.Proofs.YtmjiojflncffeaaGreat.Vc
open Go Go.Proofs

theorem Hist.cut {mk : Value} {Ts T' : PT} {us : List Undo} {r : Nat} (h : Hist mk Ts (us.take r) T') (h0 : 0 < r) (hr : r ≤ us.length) :
    ∃ T'' op, Hist mk Ts (us.take (r - 1)) T'' ∧ mayA T'' op = true ∧ (∃ k, T''.ok k) ∧ us.getD (r - 1) zUndo = T''.undo mk op ∧ T' = T''.does op := by
  have e : us.take r = us.take (r - 1) ++ [us.getD (r - 1) zUndo] := by
    obtain ⟨k, rfl⟩ : ∃ k, r = k + 1 := ⟨r - 1, by omega⟩
    rw [List.take_add_one, Nat.add_sub_cancel, List.getD_eq_getElem?_getD, List.getElem?_eq_getElem (by omega)]
    rfl
  rw [e] at h
  exact h.last
theorem Hist.top {mk : Value} {Ts T' : PT} {us : List Undo} {r : Nat} (h : Hist mk Ts (us.take r) T') (h0 : 0 < r) (hr : r ≤ us.length) :
    T'.ids.getLast? = some (us.getD (r - 1) zUndo).ix ∧ T'.last = (us.getD (r - 1) zUndo).ix := by
  obtain ⟨T'', op, _, _, _, e1, rfl⟩ := h.cut h0 hr
  rw [e1, undo_ix, does_ids, does_last]
  simp

theorem undone_ids (B : PT) (u : Undo) : (B.undone u).ids = B.ids.dropLast := by
  unfold PT.undone
  simp only
  split
  · rfl
  · split
    · rw [put_ids]
    · rfl
theorem back_safe {T B : PT} {op : Op} {k : Nat} (hm : mayA T op = true) (hT : T.ok k) (hv : B.view = (T.does op).view) : (op.kind = 1 → ∃ x, B.get op.parent = some x) ∧ (op.kind ≠ 1 → ∃ x, B.get op.node = some x) := by
  refine ⟨fun k1 => ?_, fun k1 => ?_⟩
  · obtain ⟨hn, x, hx⟩ := may_make hm k1
    have hne : op.parent ≠ op.node := fun e => by rw [e, hn] at hx; cases hx
    have : B.view op.parent = some x.view := by
      rw [hv, does_view1 hm k1]
      simp only [updV, if_neg hne]
      exact PT.view_get hx
    obtain ⟨y, hy, _⟩ := get_of_view this
    exact ⟨y, hy⟩
  · obtain ⟨x, hx⟩ := may_there hm k1
    by_cases k2 : op.kind = 2
    · obtain ⟨a, this⟩ : ∃ a, B.view op.node = some a := ⟨_, by rw [hv, does_view2 hx k2]; exact if_pos rfl⟩
      obtain ⟨y, hy, _⟩ := get_of_view this
      exact ⟨y, hy⟩
    · obtain ⟨a, this⟩ : ∃ a, B.view op.node = some a := ⟨_, by rw [hv, does_view3 hx (hT.attrs _ _ hx).1 k1 k2]; exact if_pos rfl⟩
      obtain ⟨y, hy, _⟩ := get_of_view this
      exact ⟨y, hy⟩

theorem nodesTold_len (T : PT) : (nodesTold T).length ≤ T.nodes.length := by
  refine Nat.le_trans (List.length_filter_le _ _) (Nat.le_trans (List.length_filterMap_le _ _) ?_)
  simp [nodesK, sortZ]
theorem nodesTold_few {T : PT} {k : Nat} (h : T.ok k) {t : TN} (ht : t ∈ nodesTold T) : t.attrs.length ≤ k := by
  have h1 := (List.mem_filter.1 ht).1
  obtain ⟨n, _, h2⟩ := List.mem_filterMap.1 h1
  cases hx : T.get n with
  | none => rw [hx] at h2; cases h2
  | some x =>
    rw [hx] at h2
    obtain rfl : toldOf n x = t := by simpa using h2
    have := (h.attrs n x hx).2
    simpa [toldOf, attrsOf, attrKeys, sortB] using this

end Go.Proofs.YtmjiojflncffeaaGreat.Vc

