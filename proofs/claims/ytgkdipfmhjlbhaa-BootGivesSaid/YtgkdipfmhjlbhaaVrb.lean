/- What the laws of boot take, out of memory. -/
import Derived.Test.YtgkdipfmhjlbhaaVl4
import Derived.Test.YtgkdipfmhjlbhaaVsb
import Derived.Test.YtgkdipfmhjlbhaaVsc
import Derived.Test.YtgkdipfmhjlbhaaVb1
import Derived.Test.YtgkdipfmhjlbhaaVr0
set_option linter.unusedVariables false
set_option linter.unusedSimpArgs false
namespace Go.Proofs.Ytgkdipfmhjlbhaa.Vc
open Go Go.Proofs

section
variable {H : Type} {enc : TypeId × Value → H} {W : World}
def gU8 (q : Raw) : GV := .s (.int .u8 (q.x 0))
theorem bytesOf_u8 : Try.prog.bytesOf 5 = 1 := by kernel_rfl
theorem cellsOf_u8 : Try.prog.cellsOf 5 = 1 := by kernel_rfl
theorem gU8_gb {q : Raw} (h : IntKind.u8.has (q.x 0)) : gU8 q = gb (UInt8.ofNat (q.x 0).toNat) := by
  obtain ⟨h1, h2⟩ := h
  have h1' : 0 ≤ q.x 0 := h1
  have h2' : q.x 0 ≤ 255 := h2
  rw [gU8, gb]
  congr 2
  rw [show (UInt8.ofNat (q.x 0).toNat).toNat = (q.x 0).toNat % 256 from by simp]
  omega
theorem open_bytes {v : Value} (h : RdT enc Try.prog W 22 v) : ∃ bs : List UInt8, SlR W.ph v 1 (bs.map gb) ∧ bs.length ≤ 140737488351232 := by
  obtain ⟨l, h1, h2, h3⟩ := rd_slice (t := 22) (e := 5) (n0 := 1) (ks := [.i .u8]) (g := gU8) (by kernel_rfl) (by kernel_rfl) (by kernel_rfl) (by rw [cellsOf_u8]; omega) (fun q => rfl) (fun q _ => rfl) (fun q => by rw [cellsOf_u8]; rfl) h
  rw [cellsOf_u8] at h1
  rw [bytesOf_u8] at h2
  refine ⟨l.map fun q => UInt8.ofNat (q.x 0).toNat, ?_, by simpa [reachBytes] using h2⟩
  rw [List.map_map, show List.map (gb ∘ fun q : Raw => UInt8.ofNat (q.x 0).toNat) l = l.map gU8 from List.map_congr_left fun q hq => (gU8_gb ((h3 q hq).int (j := 0) rfl)).symm]
  exact h1

def Part.ofRaw (q : Raw) : Part := ⟨q.x 0, q.x 1, q.x 2, q.v 3⟩
def kPart : List K1 := [.i .i64, .i .i64, .i .i64, .sl 22]
theorem bytesOf_Part : Try.prog.bytesOf 43 = 48 := by kernel_rfl
theorem cellsOf_Part : Try.prog.cellsOf 43 = 4 := by kernel_rfl
/-- Part's bytes are not over large. -/
def fitA (a : AP) : Prop := a.data.length ≤ 140737488351232
theorem open_raw {q : Raw} (h : Fine enc Try.prog W kPart q) : ∃ a : AP, PartR W.ph (Part.ofRaw q) a ∧ fitA a := by
  obtain ⟨bs, h1, h2⟩ := open_bytes (h.rd (j := 3) rfl)
  exact ⟨⟨q.x 0, q.x 1, q.x 2, bs⟩, ⟨rfl, rfl, rfl, h1⟩, h2⟩
theorem open_raws : ∀ {l : List Raw}, (∀ q ∈ l, Fine enc Try.prog W kPart q) → ∃ al : List AP, PartsR' W.ph (l.map Part.ofRaw) al ∧ ∀ a ∈ al, fitA a
  | [], _ => ⟨[], trivial, by simp⟩
  | q :: l, h => by
    obtain ⟨a, h1, h2⟩ := open_raw (h q (by simp))
    obtain ⟨al, h3, h4⟩ := open_raws fun q hq => h q (List.mem_cons_of_mem _ hq)
    refine ⟨a :: al, ⟨h1, h3⟩, fun x hx => ?_⟩
    rcases List.mem_cons.1 hx with rfl | hx
    · exact h2
    · exact h4 x hx
theorem open_parts {v : Value} (h : RdT enc Try.prog W 27 v) : ∃ al : List AP, PartsR W.ph v al ∧ al.length * 48 ≤ 140737488351232 ∧ ∀ a ∈ al, a.data.length ≤ 140737488351232 := by
  obtain ⟨l, h1, h2, h3⟩ := rd_slice (t := 27) (e := 43) (n0 := 9) (ks := kPart) (g := fun q => gPart (Part.ofRaw q)) (by kernel_rfl) (by kernel_rfl) (by kernel_rfl) (by rw [cellsOf_Part]; omega) (fun q => rfl) (fun q hq => gPart_ok _ (hq 3 _ rfl)) (fun q => by rw [gPart_sz, cellsOf_Part]) h
  rw [cellsOf_Part] at h1
  rw [bytesOf_Part] at h2
  obtain ⟨al, h4, h5⟩ := open_raws h3
  have hl := h4.len
  exact ⟨al, ⟨l.map Part.ofRaw, by rw [List.map_map]; exact h1, h4⟩, by rw [← hl]; simpa [reachBytes] using h2, h5⟩
theorem open_part {base : Nat} {v : Value} (h : RdV enc Try.prog W 43 v) (hv : Value.okWide Try.prog W .any base 43 v) : ∃ p a, v = (gPart p).val ∧ PartR W.ph p a ∧ a.data.length ≤ 140737488351232 := by
  obtain ⟨q, rfl, hf⟩ := rdv_agg (n0 := 9) (ks := kPart) (g := fun q => gPart (Part.ofRaw q)) (by kernel_rfl) (by kernel_rfl) (fun q => rfl) (fun q v e => by cases e) h hv
  obtain ⟨a, h1, h2⟩ := open_raw hf
  exact ⟨_, a, rfl, h1, h2⟩
end
end Go.Proofs.Ytgkdipfmhjlbhaa.Vc
