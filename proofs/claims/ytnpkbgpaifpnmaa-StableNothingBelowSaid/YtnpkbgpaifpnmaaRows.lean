/-
  No cell of these rows narrows 'for every input' (looked for: loops, veiled, ifaces, maps, wideKeys, modest, calm, conditions, laid).
  DERIVED. THE GIVEN ROWS OF THIS SEAT. 5 by the template 'for every input the law returns true; each argument reads behind the call as it read before'; 0 by the template 'total and deterministic' (their statements: YtnpkbgpaifpnmaaTotals.lean).
  GIVEN WITH THE SEED: the statements are not yours to turn. If you find one false, say at which input.
  Laid BY PROGRAM, IN A SANDBOX (cutbox-rows.mjs): the forced cells as the released guide's own fill.sh prints them over the translation 417f72f6b0560504… (all of the seat's roots in one cut). By AI agents, Wed Nov 11 2026. No macro, syntax, notation, axiom, sorry.
-/
import Derived.Test.YtnpkbgpaifpnmaaChecked
import GoSem.Claim
import GoSem.ClaimJoined
import GoSem.ClaimMapViews
import Derived.JoinedTies
import Derived.KernelRfl
namespace Go.Proofs.Ytnpkbgpaifpnmaa
/- THE CELL 'sum', in the pinned program and in every row, IS THE sha256 OF THE DUMP (.gsa) THAT YtnpkbgpaifpnmaaProg.lean LOADS. Nothing in Lean hashes anything: it is a label: what it is worth is what the hold of that sum in a sandbox is worth. -/
noncomputable def Try.pinned : Pinned := { name := "ytnpkbgpaifpnmaa", sum := "417f72f6b05605045a4c2b98de47bd9ec335ca85bda33bd4ac001128011ec2fd", checked := Try.checked }
namespace Rows
def none {H : Type} : Left H := { results := [], args := [] }

/-- 'orchardlaw18.StableBounds': WHATEVER THE INPUT: true; the input reads as it did. -/
def stableBoundsSpec : ChangeSpec := { name := "stableBounds", fn := fun _ => fun
  | [d] => { results := [.lit (.bool true)], args := [d] }
  | _ => none }
def stableBoundsRow : OpenClaim := { program := "ytnpkbgpaifpnmaa", sum := "417f72f6b05605045a4c2b98de47bd9ec335ca85bda33bd4ac001128011ec2fd", func := "orchard/orchardlaw18.StableBounds", spec := "stableBounds", apart := false }
def StableBoundsSaid : Prop := stableBoundsRow.holds Try.pinned (OpenSpec.ofChange stableBoundsSpec)

/-- ITS FALSE NEIGHBOUR: 'it returns false'. Refute it at one input. -/
def stableBoundsWrong : ChangeSpec := { name := "stableBounds", fn := fun _ => fun
  | [d] => { results := [.lit (.bool false)], args := [d] }
  | _ => none }
def StableBoundsWrongFalsely : Prop := stableBoundsRow.holds Try.pinned (OpenSpec.ofChange stableBoundsWrong)

/-- 'orchardlaw18.StableNothingBelow': WHATEVER THE INPUT: true; the input reads as it did. -/
def stableNothingBelowSpec : ChangeSpec := { name := "stableNothingBelow", fn := fun _ => fun
  | [d1, d2] => { results := [.lit (.bool true)], args := [d1, d2] }
  | _ => none }
def stableNothingBelowRow : OpenClaim := { program := "ytnpkbgpaifpnmaa", sum := "417f72f6b05605045a4c2b98de47bd9ec335ca85bda33bd4ac001128011ec2fd", func := "orchard/orchardlaw18.StableNothingBelow", spec := "stableNothingBelow", apart := false }
def StableNothingBelowSaid : Prop := stableNothingBelowRow.holds Try.pinned (OpenSpec.ofChange stableNothingBelowSpec)

/-- ITS FALSE NEIGHBOUR: 'it returns false'. Refute it at one input. -/
def stableNothingBelowWrong : ChangeSpec := { name := "stableNothingBelow", fn := fun _ => fun
  | [d1, d2] => { results := [.lit (.bool false)], args := [d1, d2] }
  | _ => none }
def StableNothingBelowWrongFalsely : Prop := stableNothingBelowRow.holds Try.pinned (OpenSpec.ofChange stableNothingBelowWrong)

/-- 'orchardlaw18.StableCuts': WHATEVER THE INPUT: true; the input reads as it did. -/
def stableCutsSpec : ChangeSpec := { name := "stableCuts", fn := fun _ => fun
  | [d1, d2] => { results := [.lit (.bool true)], args := [d1, d2] }
  | _ => none }
def stableCutsRow : OpenClaim := { program := "ytnpkbgpaifpnmaa", sum := "417f72f6b05605045a4c2b98de47bd9ec335ca85bda33bd4ac001128011ec2fd", func := "orchard/orchardlaw18.StableCuts", spec := "stableCuts", apart := false }
def StableCutsSaid : Prop := stableCutsRow.holds Try.pinned (OpenSpec.ofChange stableCutsSpec)

/-- ITS FALSE NEIGHBOUR: 'it returns false'. Refute it at one input. -/
def stableCutsWrong : ChangeSpec := { name := "stableCuts", fn := fun _ => fun
  | [d1, d2] => { results := [.lit (.bool false)], args := [d1, d2] }
  | _ => none }
def StableCutsWrongFalsely : Prop := stableCutsRow.holds Try.pinned (OpenSpec.ofChange stableCutsWrong)

/-- 'orchardlaw18.StableKeeps': WHATEVER THE INPUT: true; the input reads as it did. -/
def stableKeepsSpec : ChangeSpec := { name := "stableKeeps", fn := fun _ => fun
  | [d1, d2, d3] => { results := [.lit (.bool true)], args := [d1, d2, d3] }
  | _ => none }
def stableKeepsRow : OpenClaim := { program := "ytnpkbgpaifpnmaa", sum := "417f72f6b05605045a4c2b98de47bd9ec335ca85bda33bd4ac001128011ec2fd", func := "orchard/orchardlaw18.StableKeeps", spec := "stableKeeps", unfollowed := true, recurses := true, apart := false }
def StableKeepsSaid : Prop := stableKeepsRow.holds Try.pinned (OpenSpec.ofChange stableKeepsSpec)

/-- ITS FALSE NEIGHBOUR: 'it returns false'. Refute it at one input. -/
def stableKeepsWrong : ChangeSpec := { name := "stableKeeps", fn := fun _ => fun
  | [d1, d2, d3] => { results := [.lit (.bool false)], args := [d1, d2, d3] }
  | _ => none }
def StableKeepsWrongFalsely : Prop := stableKeepsRow.holds Try.pinned (OpenSpec.ofChange stableKeepsWrong)

/-- 'orchardlaw18.StableGrows': WHATEVER THE INPUT: true; the input reads as it did. -/
def stableGrowsSpec : ChangeSpec := { name := "stableGrows", fn := fun _ => fun
  | [d1, d2, d3, d4] => { results := [.lit (.bool true)], args := [d1, d2, d3, d4] }
  | _ => none }
def stableGrowsRow : OpenClaim := { program := "ytnpkbgpaifpnmaa", sum := "417f72f6b05605045a4c2b98de47bd9ec335ca85bda33bd4ac001128011ec2fd", func := "orchard/orchardlaw18.StableGrows", spec := "stableGrows", unfollowed := true, recurses := true, apart := false }
def StableGrowsSaid : Prop := stableGrowsRow.holds Try.pinned (OpenSpec.ofChange stableGrowsSpec)

/-- ITS FALSE NEIGHBOUR: 'it returns false'. Refute it at one input. -/
def stableGrowsWrong : ChangeSpec := { name := "stableGrows", fn := fun _ => fun
  | [d1, d2, d3, d4] => { results := [.lit (.bool false)], args := [d1, d2, d3, d4] }
  | _ => none }
def StableGrowsWrongFalsely : Prop := stableGrowsRow.holds Try.pinned (OpenSpec.ofChange stableGrowsWrong)

/- THE SECOND FORM. 'bulk': how many values and letters a reading holds, each counted each time it is reached (what is shared counts as often as it is met; a slice's spare places count too). A statement '..UptoSaid' is the law's where the arguments, and the package variables that the reading takes, are together of bulk at most 1048576: NARROWER than '..Said'. Prove '..Said' where nothing that the law and all that it calls make is longer than what came in: it says more and counts as full. Else prove '..UptoSaid'. A law counts once. -/
mutual
def uptoBulk {H : Type} : DataW H → Nat
  | .lit (.string bytes) => bytes.length + 1
  | .lit _ => 1
  | .nil => 1
  | .ptr d => uptoBulk d + 1
  | .slice elems spare => uptoBulkAll elems + uptoBulkAll spare + 1
  | .agg parts => uptoBulkAll parts + 1
  | .iface _ d => uptoBulk d + 1
  | .map entries => uptoBulkEntries entries + 1
  | .held _ => 1
def uptoBulkAll {H : Type} : List (DataW H) → Nat
  | [] => 0
  | d :: r => uptoBulk d + uptoBulkAll r
def uptoBulkEntries {H : Type} : List (Lit × DataW H) → Nat
  | [] => 0
  | x :: r => uptoBulkEntry x + uptoBulkEntries r
def uptoBulkEntry {H : Type} : Lit × DataW H → Nat
  | (.string bytes, d) => bytes.length + uptoBulk d + 1
  | (_, d) => uptoBulk d + 1
 end
def uptoSmall : (H : Type) → List (DataW H) → Bool := fun _ ds => decide (uptoBulkAll ds ≤ 1048576)
def OpenSpec.upto (s : _root_.Go.ChangeSpec) : _root_.Go.OpenSpec := { _root_.Go.OpenSpec.ofChange s with cond := some uptoSmall }

/-- 'orchardlaw18.StableBounds', WHERE WHAT IT READS IS OF BULK AT MOST 1048576: true; the input reads as it did. -/
def stableBoundsUptoRow : OpenClaim := { program := "ytnpkbgpaifpnmaa", sum := "417f72f6b05605045a4c2b98de47bd9ec335ca85bda33bd4ac001128011ec2fd", func := "orchard/orchardlaw18.StableBounds", spec := "stableBounds", apart := false, narrowed := true }
def StableBoundsUptoSaid : Prop := stableBoundsUptoRow.holds Try.pinned (OpenSpec.upto stableBoundsSpec)

/-- 'orchardlaw18.StableNothingBelow', WHERE WHAT IT READS IS OF BULK AT MOST 1048576: true; the input reads as it did. -/
def stableNothingBelowUptoRow : OpenClaim := { program := "ytnpkbgpaifpnmaa", sum := "417f72f6b05605045a4c2b98de47bd9ec335ca85bda33bd4ac001128011ec2fd", func := "orchard/orchardlaw18.StableNothingBelow", spec := "stableNothingBelow", apart := false, narrowed := true }
def StableNothingBelowUptoSaid : Prop := stableNothingBelowUptoRow.holds Try.pinned (OpenSpec.upto stableNothingBelowSpec)

/-- 'orchardlaw18.StableCuts', WHERE WHAT IT READS IS OF BULK AT MOST 1048576: true; the input reads as it did. -/
def stableCutsUptoRow : OpenClaim := { program := "ytnpkbgpaifpnmaa", sum := "417f72f6b05605045a4c2b98de47bd9ec335ca85bda33bd4ac001128011ec2fd", func := "orchard/orchardlaw18.StableCuts", spec := "stableCuts", apart := false, narrowed := true }
def StableCutsUptoSaid : Prop := stableCutsUptoRow.holds Try.pinned (OpenSpec.upto stableCutsSpec)

/-- 'orchardlaw18.StableKeeps', WHERE WHAT IT READS IS OF BULK AT MOST 1048576: true; the input reads as it did. -/
def stableKeepsUptoRow : OpenClaim := { program := "ytnpkbgpaifpnmaa", sum := "417f72f6b05605045a4c2b98de47bd9ec335ca85bda33bd4ac001128011ec2fd", func := "orchard/orchardlaw18.StableKeeps", spec := "stableKeeps", unfollowed := true, recurses := true, apart := false, narrowed := true }
def StableKeepsUptoSaid : Prop := stableKeepsUptoRow.holds Try.pinned (OpenSpec.upto stableKeepsSpec)

/-- 'orchardlaw18.StableGrows', WHERE WHAT IT READS IS OF BULK AT MOST 1048576: true; the input reads as it did. -/
def stableGrowsUptoRow : OpenClaim := { program := "ytnpkbgpaifpnmaa", sum := "417f72f6b05605045a4c2b98de47bd9ec335ca85bda33bd4ac001128011ec2fd", func := "orchard/orchardlaw18.StableGrows", spec := "stableGrows", unfollowed := true, recurses := true, apart := false, narrowed := true }
def StableGrowsUptoSaid : Prop := stableGrowsUptoRow.holds Try.pinned (OpenSpec.upto stableGrowsSpec)

end Rows
end Go.Proofs.Ytnpkbgpaifpnmaa
