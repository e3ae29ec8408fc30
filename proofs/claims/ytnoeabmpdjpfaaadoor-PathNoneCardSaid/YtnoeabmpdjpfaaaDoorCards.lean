/-
  DERIVED. GIVEN WITH THE SEED: THE CARDS: each row of YtnoeabmpdjpfaaaDoorRows.lean that lists a variable, with what it lists TIED to the program's text (the seventh form; the later family's looks); each row that meets fmt, with fmt's text TOLD by the authors' own Lean function (tested against real Go, not proved from fmt's source: count such statements apart). THE CARD IS WHAT COUNTS. Prove the row's statement (the work); the ties are given (YtnoeabmpdjpfaaaDoorTie.lean); close each card by the builder's one call (the guide's Derived/Test/ToyasCard.lean, 'card_holds'). Laid BY PROGRAM, IN A SANDBOX (cutbox-door.mjs). By AI agents, Wed Nov 11 2026. No macro, syntax, notation, axiom, sorry.
-/
import Derived.Test.YtnoeabmpdjpfaaaDoorRows
import GoSem.ClaimSeven
namespace Go.Proofs.YtnoeabmpdjpfaaaDoor
namespace Rows

/-- THE TIED CARD OF 'orchardlaw20.PathNone'. -/
def pathNoneCard : Claim7 := { stood := { row := pathNoneRow, standIns := [], harness := (true, "a083b111d092a08b22d49d550b1ad57fd209e48fd432d279091828911df86ad4"), looks := false }, kinds := [], alts := [], laidByText := true, laidKinds := [.data, .pinned], laidTests := true, laidLooks := .later }
def PathNoneCardSaid : Prop := Claim7.holds Tryd.pinned (.plain (OpenSpec.ofChange pathNoneSpec)) pathNoneCard

/-- THE SECOND FORM's CARD OF 'orchardlaw20.PathNone'. -/
def pathNoneUptoCard : Claim7 := { stood := { row := pathNoneUptoRow, standIns := [], harness := (true, "a083b111d092a08b22d49d550b1ad57fd209e48fd432d279091828911df86ad4"), looks := false }, kinds := [], alts := [], laidByText := true, laidKinds := [.data, .pinned], laidTests := true, laidLooks := .later }
def PathNoneUptoCardSaid : Prop := Claim7.holds Tryd.pinned (.plain (OpenSpec.upto pathNoneSpec)) pathNoneUptoCard
end Rows
end Go.Proofs.YtnoeabmpdjpfaaaDoor
