/-
  No cell of these rows narrows 'for every input' (looked for: loops, veiled, ifaces, maps, wideKeys, modest, calm, conditions, laid).
  DERIVED. THE GIVEN ROWS OF THIS SEAT. 9 by the template 'for every input the law returns true; each argument reads behind the call as it read before'; 0 by the template 'total and deterministic' (their statements: YtmjiojflncffeaaGreatTotals.lean).
  GIVEN WITH THE SEED: the statements are not yours to turn. If you find one false, say at which input.
  Laid BY PROGRAM, IN A SANDBOX (cutbox-rows.mjs): the forced cells as the released guide's own fill.sh prints them over the translation 1d2dfbed1f271c74… (all of the seat's roots in one cut). By AI agents, Wed Nov 11 2026. No macro, syntax, notation, axiom, sorry.
-/
import Derived.Test.YtmjiojflncffeaaGreatChecked
import GoSem.Claim
import GoSem.ClaimJoined
import GoSem.ClaimMapViews
import Derived.JoinedTies
import Derived.KernelRfl
namespace Go.Proofs.YtmjiojflncffeaaGreat
/- THE CELL 'sum', in the pinned program and in every row, IS THE sha256 OF THE DUMP (.gsa) THAT YtmjiojflncffeaaGreatProg.lean LOADS. Nothing in Lean hashes anything: it is a label: what it is worth is what the hold of that sum in a sandbox is worth. -/
noncomputable def Tryz.pinned : Pinned := { name := "ytmjiojflncffeaagreat", sum := "1d2dfbed1f271c74562980806336b1aaa659afe2f2fcd90e988898e7dbaeb657", checked := Tryz.checked }
namespace Rows
def none {H : Type} : Left H := { results := [], args := [] }

/-- 'orchardlaw13.OplogRedoes': WHATEVER THE INPUT: true; the input reads as it did. -/
def oplogRedoesSpec : ChangeSpec := { name := "oplogRedoes", fn := fun _ => fun
  | [d1, d2] => { results := [.lit (.bool true)], args := [d1, d2] }
  | _ => none }
def oplogRedoesRow : OpenClaim := { program := "ytmjiojflncffeaagreat", sum := "1d2dfbed1f271c74562980806336b1aaa659afe2f2fcd90e988898e7dbaeb657", func := "orchard/orchardlaw13.OplogRedoes", spec := "oplogRedoes", inPlace := ["internal/bytealg.IndexByteString", "internal/bytealg.IndexString"], unfollowed := true, recurses := true, named := ["internal/bytealg.MaxLen"], plainKeys := false, apart := false }
def OplogRedoesSaid : Prop := oplogRedoesRow.holds Tryz.pinned (OpenSpec.ofChange oplogRedoesSpec)

/-- ITS FALSE NEIGHBOUR: 'it returns false'. Refute it at one input. -/
def oplogRedoesWrong : ChangeSpec := { name := "oplogRedoes", fn := fun _ => fun
  | [d1, d2] => { results := [.lit (.bool false)], args := [d1, d2] }
  | _ => none }
def OplogRedoesWrongFalsely : Prop := oplogRedoesRow.holds Tryz.pinned (OpenSpec.ofChange oplogRedoesWrong)

/-- 'orchardlaw13.OplogWould': WHATEVER THE INPUT: true; the input reads as it did. -/
def oplogWouldSpec : ChangeSpec := { name := "oplogWould", fn := fun _ => fun
  | [d1, d2] => { results := [.lit (.bool true)], args := [d1, d2] }
  | _ => none }
def oplogWouldRow : OpenClaim := { program := "ytmjiojflncffeaagreat", sum := "1d2dfbed1f271c74562980806336b1aaa659afe2f2fcd90e988898e7dbaeb657", func := "orchard/orchardlaw13.OplogWould", spec := "oplogWould", inPlace := ["internal/bytealg.IndexByteString", "internal/bytealg.IndexString"], unfollowed := true, recurses := true, named := ["internal/bytealg.MaxLen"], plainKeys := false, apart := false }
def OplogWouldSaid : Prop := oplogWouldRow.holds Tryz.pinned (OpenSpec.ofChange oplogWouldSpec)

/-- ITS FALSE NEIGHBOUR: 'it returns false'. Refute it at one input. -/
def oplogWouldWrong : ChangeSpec := { name := "oplogWould", fn := fun _ => fun
  | [d1, d2] => { results := [.lit (.bool false)], args := [d1, d2] }
  | _ => none }
def OplogWouldWrongFalsely : Prop := oplogWouldRow.holds Tryz.pinned (OpenSpec.ofChange oplogWouldWrong)

/-- 'orchardlaw13.OplogOrders': WHATEVER THE INPUT: true; the input reads as it did. -/
def oplogOrdersSpec : ChangeSpec := { name := "oplogOrders", fn := fun _ => fun
  | [d1, d2, d3] => { results := [.lit (.bool true)], args := [d1, d2, d3] }
  | _ => none }
def oplogOrdersRow : OpenClaim := { program := "ytmjiojflncffeaagreat", sum := "1d2dfbed1f271c74562980806336b1aaa659afe2f2fcd90e988898e7dbaeb657", func := "orchard/orchardlaw13.OplogOrders", spec := "oplogOrders", inPlace := ["internal/bytealg.IndexByteString", "internal/bytealg.IndexString"], unfollowed := true, recurses := true, named := ["internal/bytealg.MaxLen"], plainKeys := false, apart := false }
def OplogOrdersSaid : Prop := oplogOrdersRow.holds Tryz.pinned (OpenSpec.ofChange oplogOrdersSpec)

/-- ITS FALSE NEIGHBOUR: 'it returns false'. Refute it at one input. -/
def oplogOrdersWrong : ChangeSpec := { name := "oplogOrders", fn := fun _ => fun
  | [d1, d2, d3] => { results := [.lit (.bool false)], args := [d1, d2, d3] }
  | _ => none }
def OplogOrdersWrongFalsely : Prop := oplogOrdersRow.holds Tryz.pinned (OpenSpec.ofChange oplogOrdersWrong)

/-- 'orchardlaw13.OplogTree': WHATEVER THE INPUT: true; the input reads as it did. -/
def oplogTreeSpec : ChangeSpec := { name := "oplogTree", fn := fun _ => fun
  | [d] => { results := [.lit (.bool true)], args := [d] }
  | _ => none }
def oplogTreeRow : OpenClaim := { program := "ytmjiojflncffeaagreat", sum := "1d2dfbed1f271c74562980806336b1aaa659afe2f2fcd90e988898e7dbaeb657", func := "orchard/orchardlaw13.OplogTree", spec := "oplogTree", inPlace := ["internal/bytealg.IndexByteString", "internal/bytealg.IndexString"], unfollowed := true, recurses := true, named := ["internal/bytealg.MaxLen"], plainKeys := false, apart := false }
def OplogTreeSaid : Prop := oplogTreeRow.holds Tryz.pinned (OpenSpec.ofChange oplogTreeSpec)

/-- ITS FALSE NEIGHBOUR: 'it returns false'. Refute it at one input. -/
def oplogTreeWrong : ChangeSpec := { name := "oplogTree", fn := fun _ => fun
  | [d] => { results := [.lit (.bool false)], args := [d] }
  | _ => none }
def OplogTreeWrongFalsely : Prop := oplogTreeRow.holds Tryz.pinned (OpenSpec.ofChange oplogTreeWrong)

/-- 'orchardlaw13.OplogCuts': WHATEVER THE INPUT: true; the input reads as it did. -/
def oplogCutsSpec : ChangeSpec := { name := "oplogCuts", fn := fun _ => fun
  | [d1, d2, d3] => { results := [.lit (.bool true)], args := [d1, d2, d3] }
  | _ => none }
def oplogCutsRow : OpenClaim := { program := "ytmjiojflncffeaagreat", sum := "1d2dfbed1f271c74562980806336b1aaa659afe2f2fcd90e988898e7dbaeb657", func := "orchard/orchardlaw13.OplogCuts", spec := "oplogCuts", inPlace := ["internal/bytealg.IndexByteString", "internal/bytealg.IndexString"], unfollowed := true, recurses := true, named := ["internal/bytealg.MaxLen"], plainKeys := false, apart := false }
def OplogCutsSaid : Prop := oplogCutsRow.holds Tryz.pinned (OpenSpec.ofChange oplogCutsSpec)

/-- ITS FALSE NEIGHBOUR: 'it returns false'. Refute it at one input. -/
def oplogCutsWrong : ChangeSpec := { name := "oplogCuts", fn := fun _ => fun
  | [d1, d2, d3] => { results := [.lit (.bool false)], args := [d1, d2, d3] }
  | _ => none }
def OplogCutsWrongFalsely : Prop := oplogCutsRow.holds Tryz.pinned (OpenSpec.ofChange oplogCutsWrong)

/-- 'orchardlaw13.OplogMerges': WHATEVER THE INPUT: true; the input reads as it did. -/
def oplogMergesSpec : ChangeSpec := { name := "oplogMerges", fn := fun _ => fun
  | [d1, d2] => { results := [.lit (.bool true)], args := [d1, d2] }
  | _ => none }
def oplogMergesRow : OpenClaim := { program := "ytmjiojflncffeaagreat", sum := "1d2dfbed1f271c74562980806336b1aaa659afe2f2fcd90e988898e7dbaeb657", func := "orchard/orchardlaw13.OplogMerges", spec := "oplogMerges", inPlace := ["internal/bytealg.IndexByteString", "internal/bytealg.IndexString"], unfollowed := true, recurses := true, named := ["internal/bytealg.MaxLen"], plainKeys := false, apart := false }
def OplogMergesSaid : Prop := oplogMergesRow.holds Tryz.pinned (OpenSpec.ofChange oplogMergesSpec)

/-- ITS FALSE NEIGHBOUR: 'it returns false'. Refute it at one input. -/
def oplogMergesWrong : ChangeSpec := { name := "oplogMerges", fn := fun _ => fun
  | [d1, d2] => { results := [.lit (.bool false)], args := [d1, d2] }
  | _ => none }
def OplogMergesWrongFalsely : Prop := oplogMergesRow.holds Tryz.pinned (OpenSpec.ofChange oplogMergesWrong)

/-- 'orchardlaw13.OplogOwn': WHATEVER THE INPUT: true; the input reads as it did. -/
def oplogOwnSpec : ChangeSpec := { name := "oplogOwn", fn := fun _ => fun
  | [d1, d2] => { results := [.lit (.bool true)], args := [d1, d2] }
  | _ => none }
def oplogOwnRow : OpenClaim := { program := "ytmjiojflncffeaagreat", sum := "1d2dfbed1f271c74562980806336b1aaa659afe2f2fcd90e988898e7dbaeb657", func := "orchard/orchardlaw13.OplogOwn", spec := "oplogOwn", inPlace := ["internal/bytealg.IndexByteString", "internal/bytealg.IndexString"], unfollowed := true, recurses := true, named := ["internal/bytealg.MaxLen"], plainKeys := false, apart := false }
def OplogOwnSaid : Prop := oplogOwnRow.holds Tryz.pinned (OpenSpec.ofChange oplogOwnSpec)

/-- ITS FALSE NEIGHBOUR: 'it returns false'. Refute it at one input. -/
def oplogOwnWrong : ChangeSpec := { name := "oplogOwn", fn := fun _ => fun
  | [d1, d2] => { results := [.lit (.bool false)], args := [d1, d2] }
  | _ => none }
def OplogOwnWrongFalsely : Prop := oplogOwnRow.holds Tryz.pinned (OpenSpec.ofChange oplogOwnWrong)

/-- 'orchardlaw13.OplogNone': WHATEVER THE INPUT: true; the input reads as it did. -/
def oplogNoneSpec : ChangeSpec := { name := "oplogNone", fn := fun _ => fun
  | [d] => { results := [.lit (.bool true)], args := [d] }
  | _ => none }
def oplogNoneRow : OpenClaim := { program := "ytmjiojflncffeaagreat", sum := "1d2dfbed1f271c74562980806336b1aaa659afe2f2fcd90e988898e7dbaeb657", func := "orchard/orchardlaw13.OplogNone", spec := "oplogNone", inPlace := ["internal/bytealg.IndexByteString", "internal/bytealg.IndexString"], unfollowed := true, recurses := true, named := ["internal/bytealg.MaxLen"], plainKeys := false, apart := false }
def OplogNoneSaid : Prop := oplogNoneRow.holds Tryz.pinned (OpenSpec.ofChange oplogNoneSpec)

/-- ITS FALSE NEIGHBOUR: 'it returns false'. Refute it at one input. -/
def oplogNoneWrong : ChangeSpec := { name := "oplogNone", fn := fun _ => fun
  | [d] => { results := [.lit (.bool false)], args := [d] }
  | _ => none }
def OplogNoneWrongFalsely : Prop := oplogNoneRow.holds Tryz.pinned (OpenSpec.ofChange oplogNoneWrong)

/-- 'orchardlaw13.OplogFrom': WHATEVER THE INPUT: true; the input reads as it did. -/
def oplogFromSpec : ChangeSpec := { name := "oplogFrom", fn := fun _ => fun
  | [d1, d2, d3] => { results := [.lit (.bool true)], args := [d1, d2, d3] }
  | _ => none }
def oplogFromRow : OpenClaim := { program := "ytmjiojflncffeaagreat", sum := "1d2dfbed1f271c74562980806336b1aaa659afe2f2fcd90e988898e7dbaeb657", func := "orchard/orchardlaw13.OplogFrom", spec := "oplogFrom", inPlace := ["maps.clone", "internal/bytealg.IndexByteString", "internal/bytealg.IndexString"], unfollowed := true, recurses := true, named := ["internal/bytealg.MaxLen"], plainKeys := false, apart := false }
def OplogFromSaid : Prop := oplogFromRow.holds Tryz.pinned (OpenSpec.ofChange oplogFromSpec)

/-- ITS FALSE NEIGHBOUR: 'it returns false'. Refute it at one input. -/
def oplogFromWrong : ChangeSpec := { name := "oplogFrom", fn := fun _ => fun
  | [d1, d2, d3] => { results := [.lit (.bool false)], args := [d1, d2, d3] }
  | _ => none }
def OplogFromWrongFalsely : Prop := oplogFromRow.holds Tryz.pinned (OpenSpec.ofChange oplogFromWrong)

/- THE SECOND FORM. 'bulk': how many values and letters a reading holds, each counted each time it is reached (what is shared counts as often as it is met; a slice's spare places count too). A statement '..UptoSaid' is the law's where the arguments, and the package variables that the reading takes, are together of bulk at most 1048576: NARROWER than '..Said'. Prove '..Said' where nothing that the law and all that it calls make is longer than what came in: it says more and counts as full. Else prove '..UptoSaid'. A law counts once. -/
mutual
def uptoBulk {H : Type} : DataW H → Nat
  | .lit (.string bytes) => bytes.length + 1
  | .lit _ => 1
  | .nil => 1
  | .ptr d => uptoBulk d + 1
  | .slice elems spare => uptoBulkAll elems + uptoBulkAll spare + 1
  | .agg parts => uptoBulkAll parts + 1
  | .iface _ d => uptoBulk d + 1
  | .map entries => uptoBulkEntries entries + 1
  | .held _ => 1
def uptoBulkAll {H : Type} : List (DataW H) → Nat
  | [] => 0
  | d :: r => uptoBulk d + uptoBulkAll r
def uptoBulkEntries {H : Type} : List (Lit × DataW H) → Nat
  | [] => 0
  | x :: r => uptoBulkEntry x + uptoBulkEntries r
def uptoBulkEntry {H : Type} : Lit × DataW H → Nat
  | (.string bytes, d) => bytes.length + uptoBulk d + 1
  | (_, d) => uptoBulk d + 1
 end
def uptoSmall : (H : Type) → List (DataW H) → Bool := fun _ ds => decide (uptoBulkAll ds ≤ 1048576)
def OpenSpec.upto (s : _root_.Go.ChangeSpec) : _root_.Go.OpenSpec := { _root_.Go.OpenSpec.ofChange s with cond := some uptoSmall }

/-- 'orchardlaw13.OplogRedoes', WHERE WHAT IT READS IS OF BULK AT MOST 1048576: true; the input reads as it did. -/
def oplogRedoesUptoRow : OpenClaim := { program := "ytmjiojflncffeaagreat", sum := "1d2dfbed1f271c74562980806336b1aaa659afe2f2fcd90e988898e7dbaeb657", func := "orchard/orchardlaw13.OplogRedoes", spec := "oplogRedoes", inPlace := ["internal/bytealg.IndexByteString", "internal/bytealg.IndexString"], unfollowed := true, recurses := true, named := ["internal/bytealg.MaxLen"], plainKeys := false, apart := false, narrowed := true }
def OplogRedoesUptoSaid : Prop := oplogRedoesUptoRow.holds Tryz.pinned (OpenSpec.upto oplogRedoesSpec)

/-- 'orchardlaw13.OplogWould', WHERE WHAT IT READS IS OF BULK AT MOST 1048576: true; the input reads as it did. -/
def oplogWouldUptoRow : OpenClaim := { program := "ytmjiojflncffeaagreat", sum := "1d2dfbed1f271c74562980806336b1aaa659afe2f2fcd90e988898e7dbaeb657", func := "orchard/orchardlaw13.OplogWould", spec := "oplogWould", inPlace := ["internal/bytealg.IndexByteString", "internal/bytealg.IndexString"], unfollowed := true, recurses := true, named := ["internal/bytealg.MaxLen"], plainKeys := false, apart := false, narrowed := true }
def OplogWouldUptoSaid : Prop := oplogWouldUptoRow.holds Tryz.pinned (OpenSpec.upto oplogWouldSpec)

/-- 'orchardlaw13.OplogOrders', WHERE WHAT IT READS IS OF BULK AT MOST 1048576: true; the input reads as it did. -/
def oplogOrdersUptoRow : OpenClaim := { program := "ytmjiojflncffeaagreat", sum := "1d2dfbed1f271c74562980806336b1aaa659afe2f2fcd90e988898e7dbaeb657", func := "orchard/orchardlaw13.OplogOrders", spec := "oplogOrders", inPlace := ["internal/bytealg.IndexByteString", "internal/bytealg.IndexString"], unfollowed := true, recurses := true, named := ["internal/bytealg.MaxLen"], plainKeys := false, apart := false, narrowed := true }
def OplogOrdersUptoSaid : Prop := oplogOrdersUptoRow.holds Tryz.pinned (OpenSpec.upto oplogOrdersSpec)

/-- 'orchardlaw13.OplogTree', WHERE WHAT IT READS IS OF BULK AT MOST 1048576: true; the input reads as it did. -/
def oplogTreeUptoRow : OpenClaim := { program := "ytmjiojflncffeaagreat", sum := "1d2dfbed1f271c74562980806336b1aaa659afe2f2fcd90e988898e7dbaeb657", func := "orchard/orchardlaw13.OplogTree", spec := "oplogTree", inPlace := ["internal/bytealg.IndexByteString", "internal/bytealg.IndexString"], unfollowed := true, recurses := true, named := ["internal/bytealg.MaxLen"], plainKeys := false, apart := false, narrowed := true }
def OplogTreeUptoSaid : Prop := oplogTreeUptoRow.holds Tryz.pinned (OpenSpec.upto oplogTreeSpec)

/-- 'orchardlaw13.OplogCuts', WHERE WHAT IT READS IS OF BULK AT MOST 1048576: true; the input reads as it did. -/
def oplogCutsUptoRow : OpenClaim := { program := "ytmjiojflncffeaagreat", sum := "1d2dfbed1f271c74562980806336b1aaa659afe2f2fcd90e988898e7dbaeb657", func := "orchard/orchardlaw13.OplogCuts", spec := "oplogCuts", inPlace := ["internal/bytealg.IndexByteString", "internal/bytealg.IndexString"], unfollowed := true, recurses := true, named := ["internal/bytealg.MaxLen"], plainKeys := false, apart := false, narrowed := true }
def OplogCutsUptoSaid : Prop := oplogCutsUptoRow.holds Tryz.pinned (OpenSpec.upto oplogCutsSpec)

/-- 'orchardlaw13.OplogMerges', WHERE WHAT IT READS IS OF BULK AT MOST 1048576: true; the input reads as it did. -/
def oplogMergesUptoRow : OpenClaim := { program := "ytmjiojflncffeaagreat", sum := "1d2dfbed1f271c74562980806336b1aaa659afe2f2fcd90e988898e7dbaeb657", func := "orchard/orchardlaw13.OplogMerges", spec := "oplogMerges", inPlace := ["internal/bytealg.IndexByteString", "internal/bytealg.IndexString"], unfollowed := true, recurses := true, named := ["internal/bytealg.MaxLen"], plainKeys := false, apart := false, narrowed := true }
def OplogMergesUptoSaid : Prop := oplogMergesUptoRow.holds Tryz.pinned (OpenSpec.upto oplogMergesSpec)

/-- 'orchardlaw13.OplogOwn', WHERE WHAT IT READS IS OF BULK AT MOST 1048576: true; the input reads as it did. -/
def oplogOwnUptoRow : OpenClaim := { program := "ytmjiojflncffeaagreat", sum := "1d2dfbed1f271c74562980806336b1aaa659afe2f2fcd90e988898e7dbaeb657", func := "orchard/orchardlaw13.OplogOwn", spec := "oplogOwn", inPlace := ["internal/bytealg.IndexByteString", "internal/bytealg.IndexString"], unfollowed := true, recurses := true, named := ["internal/bytealg.MaxLen"], plainKeys := false, apart := false, narrowed := true }
def OplogOwnUptoSaid : Prop := oplogOwnUptoRow.holds Tryz.pinned (OpenSpec.upto oplogOwnSpec)

/-- 'orchardlaw13.OplogNone', WHERE WHAT IT READS IS OF BULK AT MOST 1048576: true; the input reads as it did. -/
def oplogNoneUptoRow : OpenClaim := { program := "ytmjiojflncffeaagreat", sum := "1d2dfbed1f271c74562980806336b1aaa659afe2f2fcd90e988898e7dbaeb657", func := "orchard/orchardlaw13.OplogNone", spec := "oplogNone", inPlace := ["internal/bytealg.IndexByteString", "internal/bytealg.IndexString"], unfollowed := true, recurses := true, named := ["internal/bytealg.MaxLen"], plainKeys := false, apart := false, narrowed := true }
def OplogNoneUptoSaid : Prop := oplogNoneUptoRow.holds Tryz.pinned (OpenSpec.upto oplogNoneSpec)

/-- 'orchardlaw13.OplogFrom', WHERE WHAT IT READS IS OF BULK AT MOST 1048576: true; the input reads as it did. -/
def oplogFromUptoRow : OpenClaim := { program := "ytmjiojflncffeaagreat", sum := "1d2dfbed1f271c74562980806336b1aaa659afe2f2fcd90e988898e7dbaeb657", func := "orchard/orchardlaw13.OplogFrom", spec := "oplogFrom", inPlace := ["maps.clone", "internal/bytealg.IndexByteString", "internal/bytealg.IndexString"], unfollowed := true, recurses := true, named := ["internal/bytealg.MaxLen"], plainKeys := false, apart := false, narrowed := true }
def OplogFromUptoSaid : Prop := oplogFromUptoRow.holds Tryz.pinned (OpenSpec.upto oplogFromSpec)

end Rows
end Go.Proofs.YtmjiojflncffeaaGreat
