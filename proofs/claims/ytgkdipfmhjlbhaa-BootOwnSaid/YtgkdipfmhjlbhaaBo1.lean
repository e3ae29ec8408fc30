/- Bytes that may be written. -/
import Derived.Test.YtgkdipfmhjlbhaaBl4
set_option linter.unusedVariables false
set_option linter.unusedSimpArgs false
set_option maxRecDepth 100000
namespace Go.Proofs.Ytgkdipfmhjlbhaa.Vc
open Go Go.Proofs

/-- Bytes that may be written, whatever they are. -/
def WrB (A : PH) (v : Value) (n : Nat) : Prop :=
  (n = 0 ∧ ∃ ad c, v = .slice ad 0 c) ∨ ∃ b o c cs e, v = .slice (some ⟨b, o, none⟩) n c ∧ A b = some (.cells cs e (0, 0)) ∧ o + n ≤ cs.size ∧ ∀ j, j < n → ∃ y, cs[o + j]? = some (.int .u8 y)
theorem wrb_of {u : PH} {v : Value} {e : TypeId} {bs : List UInt8} (h : SlO u v e 1 (bs.map gb)) : WrB u v bs.length := by
  obtain ⟨_, h | ⟨a, c, rfl, h1, h2⟩⟩ := h
  · obtain ⟨rfl, h⟩ := h
    have : bs = [] := by simpa using h
    subst this
    exact .inl ⟨rfl, none, 0, rfl⟩
  · rw [List.length_map] at h1 ⊢
    rcases Nat.eq_zero_or_pos c with hc | hc
    · have h0 : bs.length = 0 := by omega
      exact .inl ⟨h0, some a, c, by rw [h0]⟩
    · obtain ⟨cs, g1, g2, g3, g4⟩ := h2 hc
      obtain ⟨b, o, s⟩ := a
      simp only at g1 g2 g3 g4
      subst g1
      refine .inr ⟨b, o, c, cs, e, rfl, g3, by omega, fun j hj => ⟨(bs[j].toNat : Int), ?_⟩⟩
      refine g4 j _ ?_
      rw [flats_gb]
      simp [hj]
theorem WrB.up {A A' : PH} {v : Value} {n : Nat} (h : WrB A v n) (hs : PH.sub A A') : WrB A' v n := by
  rcases h with h | ⟨b, o, c, cs, e, h1, h2, h3⟩
  · exact .inl h
  · exact .inr ⟨b, o, c, cs, e, h1, hs _ _ h2, h3⟩
theorem WrB.len {A : PH} {v : Value} {n : Nat} (h : WrB A v n) : ∃ ad c, v = .slice ad n c := by
  rcases h with ⟨rfl, ad, c, rfl⟩ | ⟨b, o, c, cs, e, rfl, _⟩
  · exact ⟨ad, c, rfl⟩
  · exact ⟨_, c, rfl⟩
theorem WrB.upd {A : PH} {v : Value} {n : Nat} (h : WrB A v n) {b i : Nat} {cs : Array Value} {e : TypeId} {y : Int} (hb : A b = some (.cells cs e (0, 0))) : WrB (A.upd b (.cells (writeAt cs i [.int .u8 y]) e (0, 0))) v n := by
  rcases h with h | ⟨b', o, c, cs', e', h1, h2, h3, h4⟩
  · exact .inl h
  · by_cases hbb : b' = b
    · subst hbb
      rw [hb] at h2
      obtain ⟨rfl, rfl⟩ : cs = cs' ∧ e = e' := by simpa using h2
      refine .inr ⟨b', o, c, cs.setIfInBounds i (.int .u8 y), e, h1, by simp only [PH.upd, if_true, writeAt], by simpa using h3, fun j hj => ?_⟩
      obtain ⟨y', hy⟩ := h4 j hj
      by_cases hi : i = o + j
      · exact ⟨y, by rw [hi, Array.getElem?_setIfInBounds]; simp; omega⟩
      · exact ⟨y', by rw [Array.getElem?_setIfInBounds, if_neg hi]; exact hy⟩
    · exact .inr ⟨b', o, c, cs', e', h1, by simp only [PH.upd, if_neg hbb]; exact h2, h3, h4⟩
theorem upd_uni {A B : PH} {b : Nat} {o : Obj} (hA : A b ≠ none) : (uni A B).upd b o = uni (A.upd b o) B := by
  funext k
  simp only [PH.upd, uni]
  split <;> rfl
theorem upd_dis {A B : PH} {b : Nat} {o : Obj} (hd : dis A B) (hA : A b ≠ none) : dis (A.upd b o) B := fun k => by
  simp only [PH.upd]
  split
  · rename_i e; subst e
    exact .inr ((hd k).resolve_left hA)
  · exact hd k
/-- The parts' bytes may be written. -/
def WrAll (A : PH) (ps : List Part) (al : List AP) : Prop := ps.length = al.length ∧ ∀ i, i < al.length → WrB A (ps.getD i zPart).data (al.getD i zAP).data.length
theorem DatsO.wr {m : PH} {ps : List Part} {al : List AP} (h : DatsO m ps al) : WrAll m ps al := by
  obtain ⟨h1, f, h2, _⟩ := h
  exact ⟨h1, fun i hi => (wrb_of (h2 i hi).2.2.2.2.2).up (h2 i hi).1⟩
theorem WrAll.upd {A : PH} {ps : List Part} {al : List AP} (h : WrAll A ps al) {b i : Nat} {cs : Array Value} {e : TypeId} {y : Int} (hb : A b = some (.cells cs e (0, 0))) : WrAll (A.upd b (.cells (writeAt cs i [.int .u8 y]) e (0, 0))) ps al :=
  ⟨h.1, fun j hj => (h.2 j hj).upd hb⟩
theorem seen_m {C : Ctx} {ph : List PH} {m : PH} {b o : Nat} {cs : Array Value} {e : TypeId} {y : Int} (hm : m b = some (.cells cs e (0, 0))) (hc : cs[o]? = some (.int .u8 y)) : Seen C ph m b o (.s (.int .u8 y)) := by
  refine ⟨rfl, cs, e, (0, 0), .inl hm, fun i v hi => ?_⟩
  cases i with
  | zero => obtain rfl : Value.int .u8 y = v := by simpa [GV.flat] using hi
            simpa using hc
  | succ i => simp [GV.flat] at hi
/-- A call that reads, one's own memory too, with results that are known. -/
theorem call_ism {C : Ctx} {σ : SS} {f : Nat} {args : List Opd} {d : Option Nat} {K : KT} (svs : List SV) (rs : List GV) (hd : dOk d C.N = true) (ha : evL σ args = some svs)
    (hs : ∀ w vs, ArgsV C σ w svs vs → C.u0.le w → (∀ u ∈ σ.ph, u.le w) → σ.m.le w → Spec C.P f vs PH.no w fun rs' _ => rs' = rs) (hK : K (σ.put d (retS rs))) : vcCall C f args d K σ :=
  call_anym (Q := fun rs' _ => rs' = rs) (dOk_spec hd) ha (uni_no σ.m).symm (dis_no _) hs fun rs' m' h1 h2 _ => .inr (.inr (by subst h2; exact hK))
end Go.Proofs.Ytgkdipfmhjlbhaa.Vc
