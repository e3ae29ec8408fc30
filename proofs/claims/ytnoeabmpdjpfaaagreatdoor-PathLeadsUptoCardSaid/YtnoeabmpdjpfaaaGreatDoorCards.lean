/-
  DERIVED. GIVEN WITH THE SEED: THE CARDS: each row of YtnoeabmpdjpfaaaGreatDoorRows.lean that lists a variable, with what it lists TIED to the program's text (the seventh form; the later family's looks); each row that meets fmt, with fmt's text TOLD by the authors' own Lean function (tested against real Go, not proved from fmt's source: count such statements apart). THE CARD IS WHAT COUNTS. Prove the row's statement (the work); the ties are given (YtnoeabmpdjpfaaaGreatDoorTie.lean); close each card by the builder's one call (the guide's Derived/Test/ToyasCard.lean, 'card_holds'). Laid BY PROGRAM, IN A SANDBOX (cutbox-door.mjs). By AI agents, Wed Nov 11 2026. No macro, syntax, notation, axiom, sorry.
-/
import Derived.Test.YtnoeabmpdjpfaaaGreatDoorRows
import GoSem.ClaimSeven
namespace Go.Proofs.YtnoeabmpdjpfaaaGreatDoor
namespace Rows

/-- THE TIED CARD OF 'orchardlaw20.PathFinds'. -/
def pathFindsCard : Claim7 := { stood := { row := pathFindsRow, standIns := [], harness := (true, "9bb0a50e637e5604d83986e21598d2ad4ca87a7f98e6f51602c259cd6d6d8ff2"), looks := false }, kinds := [], alts := [], laidByText := true, laidKinds := [.data, .pinned], laidTests := true, laidLooks := .later }
def PathFindsCardSaid : Prop := Claim7.holds Tryz.pinned (.plain (OpenSpec.ofChange pathFindsSpec)) pathFindsCard

/-- THE TIED CARD OF 'orchardlaw20.PathOwn'. -/
def pathOwnCard : Claim7 := { stood := { row := pathOwnRow, standIns := [], harness := (true, "9bb0a50e637e5604d83986e21598d2ad4ca87a7f98e6f51602c259cd6d6d8ff2"), looks := false }, kinds := [], alts := [], laidByText := true, laidKinds := [.data, .pinned], laidTests := true, laidLooks := .later }
def PathOwnCardSaid : Prop := Claim7.holds Tryz.pinned (.plain (OpenSpec.ofChange pathOwnSpec)) pathOwnCard

/-- THE TIED CARD OF 'orchardlaw20.PathLeads'. -/
def pathLeadsCard : Claim7 := { stood := { row := pathLeadsRow, standIns := [], harness := (true, "9bb0a50e637e5604d83986e21598d2ad4ca87a7f98e6f51602c259cd6d6d8ff2"), looks := false }, kinds := [], alts := [], laidByText := true, laidKinds := [.data, .pinned], laidTests := true, laidLooks := .later }
def PathLeadsCardSaid : Prop := Claim7.holds Tryz.pinned (.plain (OpenSpec.ofChange pathLeadsSpec)) pathLeadsCard

/-- THE SECOND FORM's CARD OF 'orchardlaw20.PathFinds'. -/
def pathFindsUptoCard : Claim7 := { stood := { row := pathFindsUptoRow, standIns := [], harness := (true, "9bb0a50e637e5604d83986e21598d2ad4ca87a7f98e6f51602c259cd6d6d8ff2"), looks := false }, kinds := [], alts := [], laidByText := true, laidKinds := [.data, .pinned], laidTests := true, laidLooks := .later }
def PathFindsUptoCardSaid : Prop := Claim7.holds Tryz.pinned (.plain (OpenSpec.upto pathFindsSpec)) pathFindsUptoCard

/-- THE SECOND FORM's CARD OF 'orchardlaw20.PathOwn'. -/
def pathOwnUptoCard : Claim7 := { stood := { row := pathOwnUptoRow, standIns := [], harness := (true, "9bb0a50e637e5604d83986e21598d2ad4ca87a7f98e6f51602c259cd6d6d8ff2"), looks := false }, kinds := [], alts := [], laidByText := true, laidKinds := [.data, .pinned], laidTests := true, laidLooks := .later }
def PathOwnUptoCardSaid : Prop := Claim7.holds Tryz.pinned (.plain (OpenSpec.upto pathOwnSpec)) pathOwnUptoCard

/-- THE SECOND FORM's CARD OF 'orchardlaw20.PathLeads'. -/
def pathLeadsUptoCard : Claim7 := { stood := { row := pathLeadsUptoRow, standIns := [], harness := (true, "9bb0a50e637e5604d83986e21598d2ad4ca87a7f98e6f51602c259cd6d6d8ff2"), looks := false }, kinds := [], alts := [], laidByText := true, laidKinds := [.data, .pinned], laidTests := true, laidLooks := .later }
def PathLeadsUptoCardSaid : Prop := Claim7.holds Tryz.pinned (.plain (OpenSpec.upto pathLeadsSpec)) pathLeadsUptoCard
end Rows
end Go.Proofs.YtnoeabmpdjpfaaaGreatDoor
