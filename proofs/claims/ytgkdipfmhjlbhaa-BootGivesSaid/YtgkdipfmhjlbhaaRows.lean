/-
  No cell of these rows narrows 'for every input' (looked for: loops, veiled, ifaces, maps, wideKeys, modest, calm, conditions, laid).
  DERIVED. THE GIVEN ROWS OF THIS SEAT. 7 by the template 'for every input the law returns true; each argument reads behind the call as it read before'; 0 by the template 'total and deterministic' (their statements: YtgkdipfmhjlbhaaTotals.lean).
  GIVEN WITH THE SEED: the statements are not yours to turn. If you find one false, say at which input.
  Laid BY PROGRAM, IN A SANDBOX (cutbox-rows.mjs): the forced cells as the released guide's own fill.sh prints them over the translation 07b5feb02378a6a3… (all of the seat's roots in one cut). By AI agents, Wed Nov 11 2026. No macro, syntax, notation, axiom, sorry.
-/
import Derived.Test.YtgkdipfmhjlbhaaChecked
import GoSem.Claim
import GoSem.ClaimJoined
import GoSem.ClaimMapViews
import Derived.JoinedTies
import Derived.KernelRfl
namespace Go.Proofs.Ytgkdipfmhjlbhaa
/- THE CELL 'sum', in the pinned program and in every row, IS THE sha256 OF THE DUMP (.gsa) THAT YtgkdipfmhjlbhaaProg.lean LOADS. Nothing in Lean hashes anything: it is a label: what it is worth is what the hold of that sum in a sandbox is worth. -/
noncomputable def Try.pinned : Pinned := { name := "ytgkdipfmhjlbhaa", sum := "07b5feb02378a6a3a701185a21d838b19d279cc06f1ce464455f313aeb4cf18d", checked := Try.checked }
namespace Rows
def none {H : Type} : Left H := { results := [], args := [] }

/-- 'orchardlaw19.BootNone': WHATEVER THE INPUT: true; the input reads as it did. -/
def bootNoneSpec : ChangeSpec := { name := "bootNone", fn := fun _ => fun
  | [d] => { results := [.lit (.bool true)], args := [d] }
  | _ => none }
def bootNoneRow : OpenClaim := { program := "ytgkdipfmhjlbhaa", sum := "07b5feb02378a6a3a701185a21d838b19d279cc06f1ce464455f313aeb4cf18d", func := "orchard/orchardlaw19.BootNone", spec := "bootNone", apart := false }
def BootNoneSaid : Prop := bootNoneRow.holds Try.pinned (OpenSpec.ofChange bootNoneSpec)

/-- ITS FALSE NEIGHBOUR: 'it returns false'. Refute it at one input. -/
def bootNoneWrong : ChangeSpec := { name := "bootNone", fn := fun _ => fun
  | [d] => { results := [.lit (.bool false)], args := [d] }
  | _ => none }
def BootNoneWrongFalsely : Prop := bootNoneRow.holds Try.pinned (OpenSpec.ofChange bootNoneWrong)

/-- 'orchardlaw19.BootOwn': WHATEVER THE INPUT: true; the input reads as it did. -/
def bootOwnSpec : ChangeSpec := { name := "bootOwn", fn := fun _ => fun
  | [d1, d2] => { results := [.lit (.bool true)], args := [d1, d2] }
  | _ => none }
def bootOwnRow : OpenClaim := { program := "ytgkdipfmhjlbhaa", sum := "07b5feb02378a6a3a701185a21d838b19d279cc06f1ce464455f313aeb4cf18d", func := "orchard/orchardlaw19.BootOwn", spec := "bootOwn", apart := false }
def BootOwnSaid : Prop := bootOwnRow.holds Try.pinned (OpenSpec.ofChange bootOwnSpec)

/-- ITS FALSE NEIGHBOUR: 'it returns false'. Refute it at one input. -/
def bootOwnWrong : ChangeSpec := { name := "bootOwn", fn := fun _ => fun
  | [d1, d2] => { results := [.lit (.bool false)], args := [d1, d2] }
  | _ => none }
def BootOwnWrongFalsely : Prop := bootOwnRow.holds Try.pinned (OpenSpec.ofChange bootOwnWrong)

/-- 'orchardlaw19.BootGives': WHATEVER THE INPUT: true; the input reads as it did. -/
def bootGivesSpec : ChangeSpec := { name := "bootGives", fn := fun _ => fun
  | [d] => { results := [.lit (.bool true)], args := [d] }
  | _ => none }
def bootGivesRow : OpenClaim := { program := "ytgkdipfmhjlbhaa", sum := "07b5feb02378a6a3a701185a21d838b19d279cc06f1ce464455f313aeb4cf18d", func := "orchard/orchardlaw19.BootGives", spec := "bootGives", apart := false }
def BootGivesSaid : Prop := bootGivesRow.holds Try.pinned (OpenSpec.ofChange bootGivesSpec)

/-- ITS FALSE NEIGHBOUR: 'it returns false'. Refute it at one input. -/
def bootGivesWrong : ChangeSpec := { name := "bootGives", fn := fun _ => fun
  | [d] => { results := [.lit (.bool false)], args := [d] }
  | _ => none }
def BootGivesWrongFalsely : Prop := bootGivesRow.holds Try.pinned (OpenSpec.ofChange bootGivesWrong)

/-- 'orchardlaw19.BootAdds': WHATEVER THE INPUT: true; the input reads as it did. -/
def bootAddsSpec : ChangeSpec := { name := "bootAdds", fn := fun _ => fun
  | [d] => { results := [.lit (.bool true)], args := [d] }
  | _ => none }
def bootAddsRow : OpenClaim := { program := "ytgkdipfmhjlbhaa", sum := "07b5feb02378a6a3a701185a21d838b19d279cc06f1ce464455f313aeb4cf18d", func := "orchard/orchardlaw19.BootAdds", spec := "bootAdds", apart := false }
def BootAddsSaid : Prop := bootAddsRow.holds Try.pinned (OpenSpec.ofChange bootAddsSpec)

/-- ITS FALSE NEIGHBOUR: 'it returns false'. Refute it at one input. -/
def bootAddsWrong : ChangeSpec := { name := "bootAdds", fn := fun _ => fun
  | [d] => { results := [.lit (.bool false)], args := [d] }
  | _ => none }
def BootAddsWrongFalsely : Prop := bootAddsRow.holds Try.pinned (OpenSpec.ofChange bootAddsWrong)

/-- 'orchardlaw19.BootLists': WHATEVER THE INPUT: true; the input reads as it did. -/
def bootListsSpec : ChangeSpec := { name := "bootLists", fn := fun _ => fun
  | [d1, d2] => { results := [.lit (.bool true)], args := [d1, d2] }
  | _ => none }
def bootListsRow : OpenClaim := { program := "ytgkdipfmhjlbhaa", sum := "07b5feb02378a6a3a701185a21d838b19d279cc06f1ce464455f313aeb4cf18d", func := "orchard/orchardlaw19.BootLists", spec := "bootLists", apart := false }
def BootListsSaid : Prop := bootListsRow.holds Try.pinned (OpenSpec.ofChange bootListsSpec)

/-- ITS FALSE NEIGHBOUR: 'it returns false'. Refute it at one input. -/
def bootListsWrong : ChangeSpec := { name := "bootLists", fn := fun _ => fun
  | [d1, d2] => { results := [.lit (.bool false)], args := [d1, d2] }
  | _ => none }
def BootListsWrongFalsely : Prop := bootListsRow.holds Try.pinned (OpenSpec.ofChange bootListsWrong)

/-- 'orchardlaw19.BootFresh': WHATEVER THE INPUT: true; the input reads as it did. -/
def bootFreshSpec : ChangeSpec := { name := "bootFresh", fn := fun _ => fun
  | [d] => { results := [.lit (.bool true)], args := [d] }
  | _ => none }
def bootFreshRow : OpenClaim := { program := "ytgkdipfmhjlbhaa", sum := "07b5feb02378a6a3a701185a21d838b19d279cc06f1ce464455f313aeb4cf18d", func := "orchard/orchardlaw19.BootFresh", spec := "bootFresh", apart := false }
def BootFreshSaid : Prop := bootFreshRow.holds Try.pinned (OpenSpec.ofChange bootFreshSpec)

/-- ITS FALSE NEIGHBOUR: 'it returns false'. Refute it at one input. -/
def bootFreshWrong : ChangeSpec := { name := "bootFresh", fn := fun _ => fun
  | [d] => { results := [.lit (.bool false)], args := [d] }
  | _ => none }
def BootFreshWrongFalsely : Prop := bootFreshRow.holds Try.pinned (OpenSpec.ofChange bootFreshWrong)

/-- 'orchardlaw19.BootBack': WHATEVER THE INPUT: true; the input reads as it did. -/
def bootBackSpec : ChangeSpec := { name := "bootBack", fn := fun _ => fun
  | [d] => { results := [.lit (.bool true)], args := [d] }
  | _ => none }
def bootBackRow : OpenClaim := { program := "ytgkdipfmhjlbhaa", sum := "07b5feb02378a6a3a701185a21d838b19d279cc06f1ce464455f313aeb4cf18d", func := "orchard/orchardlaw19.BootBack", spec := "bootBack", apart := false }
def BootBackSaid : Prop := bootBackRow.holds Try.pinned (OpenSpec.ofChange bootBackSpec)

/-- ITS FALSE NEIGHBOUR: 'it returns false'. Refute it at one input. -/
def bootBackWrong : ChangeSpec := { name := "bootBack", fn := fun _ => fun
  | [d] => { results := [.lit (.bool false)], args := [d] }
  | _ => none }
def BootBackWrongFalsely : Prop := bootBackRow.holds Try.pinned (OpenSpec.ofChange bootBackWrong)

/- THE SECOND FORM. 'bulk': how many values and letters a reading holds, each counted each time it is reached (what is shared counts as often as it is met; a slice's spare places count too). A statement '..UptoSaid' is the law's where the arguments, and the package variables that the reading takes, are together of bulk at most 1048576: NARROWER than '..Said'. Prove '..Said' where nothing that the law and all that it calls make is longer than what came in: it says more and counts as full. Else prove '..UptoSaid'. A law counts once. -/
mutual
def uptoBulk {H : Type} : DataW H → Nat
  | .lit (.string bytes) => bytes.length + 1
  | .lit _ => 1
  | .nil => 1
  | .ptr d => uptoBulk d + 1
  | .slice elems spare => uptoBulkAll elems + uptoBulkAll spare + 1
  | .agg parts => uptoBulkAll parts + 1
  | .iface _ d => uptoBulk d + 1
  | .map entries => uptoBulkEntries entries + 1
  | .held _ => 1
def uptoBulkAll {H : Type} : List (DataW H) → Nat
  | [] => 0
  | d :: r => uptoBulk d + uptoBulkAll r
def uptoBulkEntries {H : Type} : List (Lit × DataW H) → Nat
  | [] => 0
  | x :: r => uptoBulkEntry x + uptoBulkEntries r
def uptoBulkEntry {H : Type} : Lit × DataW H → Nat
  | (.string bytes, d) => bytes.length + uptoBulk d + 1
  | (_, d) => uptoBulk d + 1
 end
def uptoSmall : (H : Type) → List (DataW H) → Bool := fun _ ds => decide (uptoBulkAll ds ≤ 1048576)
def OpenSpec.upto (s : _root_.Go.ChangeSpec) : _root_.Go.OpenSpec := { _root_.Go.OpenSpec.ofChange s with cond := some uptoSmall }

/-- 'orchardlaw19.BootNone', WHERE WHAT IT READS IS OF BULK AT MOST 1048576: true; the input reads as it did. -/
def bootNoneUptoRow : OpenClaim := { program := "ytgkdipfmhjlbhaa", sum := "07b5feb02378a6a3a701185a21d838b19d279cc06f1ce464455f313aeb4cf18d", func := "orchard/orchardlaw19.BootNone", spec := "bootNone", apart := false, narrowed := true }
def BootNoneUptoSaid : Prop := bootNoneUptoRow.holds Try.pinned (OpenSpec.upto bootNoneSpec)

/-- 'orchardlaw19.BootOwn', WHERE WHAT IT READS IS OF BULK AT MOST 1048576: true; the input reads as it did. -/
def bootOwnUptoRow : OpenClaim := { program := "ytgkdipfmhjlbhaa", sum := "07b5feb02378a6a3a701185a21d838b19d279cc06f1ce464455f313aeb4cf18d", func := "orchard/orchardlaw19.BootOwn", spec := "bootOwn", apart := false, narrowed := true }
def BootOwnUptoSaid : Prop := bootOwnUptoRow.holds Try.pinned (OpenSpec.upto bootOwnSpec)

/-- 'orchardlaw19.BootGives', WHERE WHAT IT READS IS OF BULK AT MOST 1048576: true; the input reads as it did. -/
def bootGivesUptoRow : OpenClaim := { program := "ytgkdipfmhjlbhaa", sum := "07b5feb02378a6a3a701185a21d838b19d279cc06f1ce464455f313aeb4cf18d", func := "orchard/orchardlaw19.BootGives", spec := "bootGives", apart := false, narrowed := true }
def BootGivesUptoSaid : Prop := bootGivesUptoRow.holds Try.pinned (OpenSpec.upto bootGivesSpec)

/-- 'orchardlaw19.BootAdds', WHERE WHAT IT READS IS OF BULK AT MOST 1048576: true; the input reads as it did. -/
def bootAddsUptoRow : OpenClaim := { program := "ytgkdipfmhjlbhaa", sum := "07b5feb02378a6a3a701185a21d838b19d279cc06f1ce464455f313aeb4cf18d", func := "orchard/orchardlaw19.BootAdds", spec := "bootAdds", apart := false, narrowed := true }
def BootAddsUptoSaid : Prop := bootAddsUptoRow.holds Try.pinned (OpenSpec.upto bootAddsSpec)

/-- 'orchardlaw19.BootLists', WHERE WHAT IT READS IS OF BULK AT MOST 1048576: true; the input reads as it did. -/
def bootListsUptoRow : OpenClaim := { program := "ytgkdipfmhjlbhaa", sum := "07b5feb02378a6a3a701185a21d838b19d279cc06f1ce464455f313aeb4cf18d", func := "orchard/orchardlaw19.BootLists", spec := "bootLists", apart := false, narrowed := true }
def BootListsUptoSaid : Prop := bootListsUptoRow.holds Try.pinned (OpenSpec.upto bootListsSpec)

/-- 'orchardlaw19.BootFresh', WHERE WHAT IT READS IS OF BULK AT MOST 1048576: true; the input reads as it did. -/
def bootFreshUptoRow : OpenClaim := { program := "ytgkdipfmhjlbhaa", sum := "07b5feb02378a6a3a701185a21d838b19d279cc06f1ce464455f313aeb4cf18d", func := "orchard/orchardlaw19.BootFresh", spec := "bootFresh", apart := false, narrowed := true }
def BootFreshUptoSaid : Prop := bootFreshUptoRow.holds Try.pinned (OpenSpec.upto bootFreshSpec)

/-- 'orchardlaw19.BootBack', WHERE WHAT IT READS IS OF BULK AT MOST 1048576: true; the input reads as it did. -/
def bootBackUptoRow : OpenClaim := { program := "ytgkdipfmhjlbhaa", sum := "07b5feb02378a6a3a701185a21d838b19d279cc06f1ce464455f313aeb4cf18d", func := "orchard/orchardlaw19.BootBack", spec := "bootBack", apart := false, narrowed := true }
def BootBackUptoSaid : Prop := bootBackUptoRow.holds Try.pinned (OpenSpec.upto bootBackSpec)

end Rows
end Go.Proofs.Ytgkdipfmhjlbhaa
