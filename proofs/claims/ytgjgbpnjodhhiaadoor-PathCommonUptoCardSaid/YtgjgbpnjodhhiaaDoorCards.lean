/-
  DERIVED. GIVEN WITH THE SEED: THE CARDS: each row of YtgjgbpnjodhhiaaDoorRows.lean that lists a variable, with what it lists TIED to the program's text (the seventh form; the later family's looks); each row that meets fmt, with fmt's text TOLD by the authors' own Lean function (tested against real Go, not proved from fmt's source: count such statements apart). THE CARD IS WHAT COUNTS. Prove the row's statement (the work); the ties are given (YtgjgbpnjodhhiaaDoorTie.lean); close each card by the builder's one call (the guide's Derived/Test/ToyasCard.lean, 'card_holds'). Laid BY PROGRAM, IN A SANDBOX (cutbox-door.mjs). By AI agents, Wed Nov 11 2026. No macro, syntax, notation, axiom, sorry.
-/
import Derived.Test.YtgjgbpnjodhhiaaDoorRows
import GoSem.ClaimSeven
namespace Go.Proofs.YtgjgbpnjodhhiaaDoor
namespace Rows

/-- THE TIED CARD OF 'orchardlaw20.PathSplits'. -/
def pathSplitsCard : Claim7 := { stood := { row := pathSplitsRow, standIns := [], harness := (true, "3f7cd7faebd44dc79942ae1120afc69ed3edc434c7325f32358daa9689e637a3"), looks := false }, kinds := [], alts := [], laidByText := true, laidKinds := [.data, .pinned], laidTests := true, laidLooks := .later }
def PathSplitsCardSaid : Prop := Claim7.holds Tryd.pinned (.plain (OpenSpec.ofChange pathSplitsSpec)) pathSplitsCard

/-- THE TIED CARD OF 'orchardlaw20.PathBack'. -/
def pathBackCard : Claim7 := { stood := { row := pathBackRow, standIns := [], harness := (true, "3f7cd7faebd44dc79942ae1120afc69ed3edc434c7325f32358daa9689e637a3"), looks := false }, kinds := [], alts := [], laidByText := true, laidKinds := [.data, .pinned], laidTests := true, laidLooks := .later }
def PathBackCardSaid : Prop := Claim7.holds Tryd.pinned (.plain (OpenSpec.ofChange pathBackSpec)) pathBackCard

/-- THE TIED CARD OF 'orchardlaw20.PathCommon'. -/
def pathCommonCard : Claim7 := { stood := { row := pathCommonRow, standIns := [], harness := (true, "3f7cd7faebd44dc79942ae1120afc69ed3edc434c7325f32358daa9689e637a3"), looks := false }, kinds := [], alts := [], laidByText := true, laidKinds := [.data, .pinned], laidTests := true, laidLooks := .later }
def PathCommonCardSaid : Prop := Claim7.holds Tryd.pinned (.plain (OpenSpec.ofChange pathCommonSpec)) pathCommonCard

/-- THE TIED CARD OF 'orchardlaw20.PathShares'. -/
def pathSharesCard : Claim7 := { stood := { row := pathSharesRow, standIns := [], harness := (true, "3f7cd7faebd44dc79942ae1120afc69ed3edc434c7325f32358daa9689e637a3"), looks := false }, kinds := [], alts := [], laidByText := true, laidKinds := [.data, .pinned], laidTests := true, laidLooks := .later }
def PathSharesCardSaid : Prop := Claim7.holds Tryd.pinned (.plain (OpenSpec.ofChange pathSharesSpec)) pathSharesCard

/-- THE SECOND FORM's CARD OF 'orchardlaw20.PathSplits'. -/
def pathSplitsUptoCard : Claim7 := { stood := { row := pathSplitsUptoRow, standIns := [], harness := (true, "3f7cd7faebd44dc79942ae1120afc69ed3edc434c7325f32358daa9689e637a3"), looks := false }, kinds := [], alts := [], laidByText := true, laidKinds := [.data, .pinned], laidTests := true, laidLooks := .later }
def PathSplitsUptoCardSaid : Prop := Claim7.holds Tryd.pinned (.plain (OpenSpec.upto pathSplitsSpec)) pathSplitsUptoCard

/-- THE SECOND FORM's CARD OF 'orchardlaw20.PathBack'. -/
def pathBackUptoCard : Claim7 := { stood := { row := pathBackUptoRow, standIns := [], harness := (true, "3f7cd7faebd44dc79942ae1120afc69ed3edc434c7325f32358daa9689e637a3"), looks := false }, kinds := [], alts := [], laidByText := true, laidKinds := [.data, .pinned], laidTests := true, laidLooks := .later }
def PathBackUptoCardSaid : Prop := Claim7.holds Tryd.pinned (.plain (OpenSpec.upto pathBackSpec)) pathBackUptoCard

/-- THE SECOND FORM's CARD OF 'orchardlaw20.PathCommon'. -/
def pathCommonUptoCard : Claim7 := { stood := { row := pathCommonUptoRow, standIns := [], harness := (true, "3f7cd7faebd44dc79942ae1120afc69ed3edc434c7325f32358daa9689e637a3"), looks := false }, kinds := [], alts := [], laidByText := true, laidKinds := [.data, .pinned], laidTests := true, laidLooks := .later }
def PathCommonUptoCardSaid : Prop := Claim7.holds Tryd.pinned (.plain (OpenSpec.upto pathCommonSpec)) pathCommonUptoCard

/-- THE SECOND FORM's CARD OF 'orchardlaw20.PathShares'. -/
def pathSharesUptoCard : Claim7 := { stood := { row := pathSharesUptoRow, standIns := [], harness := (true, "3f7cd7faebd44dc79942ae1120afc69ed3edc434c7325f32358daa9689e637a3"), looks := false }, kinds := [], alts := [], laidByText := true, laidKinds := [.data, .pinned], laidTests := true, laidLooks := .later }
def PathSharesUptoCardSaid : Prop := Claim7.holds Tryd.pinned (.plain (OpenSpec.upto pathSharesSpec)) pathSharesUptoCard
end Rows
end Go.Proofs.YtgjgbpnjodhhiaaDoor
