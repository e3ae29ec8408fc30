/- Slices that are known as values; what is known told anew. -/
import Derived.Test.YtdpknchgoeboaaaVc11
set_option linter.unusedVariables false
set_option linter.unusedSimpArgs false
namespace Go.Proofs.Ytdpknchgoeboaaa.Vc
open Go

theorem gh_ge {C : Ctx} {K : KT} {σ τ : SS} (h : Ge σ τ) (hK : K τ) : ghC C K σ := ⟨fun a w hR => ⟨τ, h.rel hR, hK⟩⟩
theorem gh_seq {C : Ctx} {K : KT} {σ : SS} (h : ghC C (fun τ => ghC C K τ) σ) : ghC C K σ := by
  constructor
  intro a w hR
  obtain ⟨τ, h1, h2⟩ := h.h a w hR
  exact h2.h a w h1
theorem gh_id {C : Ctx} {K : KT} {σ : SS} (h : K σ) : ghC C K σ := ⟨fun _ _ hR => ⟨σ, hR, h⟩⟩

theorem seen_of {C : Ctx} {ph : List PH} {m u : PH} {b o : Nat} {y : GV} {cs : Array Value} {e : TypeId} {fz : Nat × Nat} (hu : KN C.u0 (m :: ph) u) (hb : u b = some (.cells cs e fz)) (hy : y.ok) (hr : RowAt cs o y.flat) : Seen C ph m b o y := by
  refine ⟨hy, cs, e, fz, ?_, hr⟩
  rcases hu b _ hb with h | ⟨v, hv, h⟩
  · exact .inr (.inr h)
  · rcases List.mem_cons.1 hv with rfl | hv
    · exact .inl h
    · exact .inr (.inl ⟨v, hv, h⟩)

/-- A slice's place. -/
theorem SlR.shape {u : PH} {v : Value} {z : Nat} {xs : List GV} (h : SlR u v z xs) :
    (xs = [] ∧ ∃ a c, v = .slice a 0 c) ∨ (xs ≠ [] ∧ ∃ b o c, v = .slice (some ⟨b, o, none⟩) xs.length c ∧ xs.length ≤ c ∧ ∀ {C : Ctx} {ph : List PH} {m : PH}, KN C.u0 (m :: ph) u → ∀ i x, xs[i]? = some x → Seen C ph m b (o + i * z) x) := by
  obtain ⟨hels, ⟨rfl, rfl⟩ | ⟨⟨b, o, sp⟩, c, rfl, hc, hs⟩⟩ := h
  · exact .inl ⟨rfl, none, 0, rfl⟩
  · rcases xs.eq_nil_or_concat with rfl | hx
    · exact .inl ⟨rfl, some ⟨b, o, sp⟩, c, rfl⟩
    · have hx : xs ≠ [] := by obtain ⟨l, y, rfl⟩ := hx; simp
      have : 0 < xs.length := List.length_pos_iff.2 hx
      obtain ⟨cs, e, fz, h1, h2, h3⟩ := hs (by omega)
      simp only at h1 h2 h3
      subst h1
      refine .inr ⟨hx, b, o, c, rfl, hc, fun hu i x hix => seen_of hu h2 (hels x (List.mem_of_getElem? hix)).1 fun j v hj => ?_⟩
      rw [Nat.add_assoc]
      exact h3 _ _ (flats_at hels hix j v hj)
end Go.Proofs.Ytdpknchgoeboaaa.Vc
