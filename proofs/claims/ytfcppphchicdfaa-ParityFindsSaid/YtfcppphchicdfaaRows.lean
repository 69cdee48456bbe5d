/-
  No cell of these rows narrows 'for every input' (looked for: loops, veiled, ifaces, maps, wideKeys, modest, calm, conditions, laid).
  DERIVED. THE GIVEN ROWS OF THIS SEAT. 7 by the template 'for every input the law returns true; each argument reads behind the call as it read before'; 0 by the template 'total and deterministic' (their statements: YtfcppphchicdfaaTotals.lean).
  GIVEN WITH THE SEED: the statements are not yours to turn. If you find one false, say at which input.
  Laid BY PROGRAM, IN A SANDBOX (cutbox-rows.mjs): the forced cells as the released guide's own fill.sh prints them over the translation 55ac985b98373787… (all of the seat's roots in one cut). By AI agents, Wed Nov 11 2026. No macro, syntax, notation, axiom, sorry.
-/
import Derived.Test.YtfcppphchicdfaaChecked
import GoSem.Claim
import GoSem.ClaimJoined
import GoSem.ClaimMapViews
import Derived.JoinedTies
import Derived.KernelRfl
namespace Go.Proofs.Ytfcppphchicdfaa
/- THE CELL 'sum', in the pinned program and in every row, IS THE sha256 OF THE DUMP (.gsa) THAT YtfcppphchicdfaaProg.lean LOADS. Nothing in Lean hashes anything: it is a label: what it is worth is what the hold of that sum in a sandbox is worth. -/
noncomputable def Try.pinned : Pinned := { name := "ytfcppphchicdfaa", sum := "55ac985b983737872b8795138671e23de1fdcc1b63a2276b67350b398bb9700a", checked := Try.checked }
namespace Rows
def none {H : Type} : Left H := { results := [], args := [] }

/-- 'tannoylaw06.ParityChecks': WHATEVER THE INPUT: true; the input reads as it did. -/
def parityChecksSpec : ChangeSpec := { name := "parityChecks", fn := fun _ => fun
  | [d1, d2, d3, d4, d5] => { results := [.lit (.bool true)], args := [d1, d2, d3, d4, d5] }
  | _ => none }
def parityChecksRow : OpenClaim := { program := "ytfcppphchicdfaa", sum := "55ac985b983737872b8795138671e23de1fdcc1b63a2276b67350b398bb9700a", func := "tannoy/tannoylaw06.ParityChecks", spec := "parityChecks", inPlace := ["internal/abi.NoEscape", "internal/bytealg.MakeNoZero"], unfollowed := true, recurses := true, apart := false }
def ParityChecksSaid : Prop := parityChecksRow.holds Try.pinned (OpenSpec.ofChange parityChecksSpec)

/-- ITS FALSE NEIGHBOUR: 'it returns false'. Refute it at one input. -/
def parityChecksWrong : ChangeSpec := { name := "parityChecks", fn := fun _ => fun
  | [d1, d2, d3, d4, d5] => { results := [.lit (.bool false)], args := [d1, d2, d3, d4, d5] }
  | _ => none }
def ParityChecksWrongFalsely : Prop := parityChecksRow.holds Try.pinned (OpenSpec.ofChange parityChecksWrong)

/-- 'tannoylaw06.ParityJoins': WHATEVER THE INPUT: true; the input reads as it did. -/
def parityJoinsSpec : ChangeSpec := { name := "parityJoins", fn := fun _ => fun
  | [d1, d2, d3, d4, d5, d6, d7, d8, d9] => { results := [.lit (.bool true)], args := [d1, d2, d3, d4, d5, d6, d7, d8, d9] }
  | _ => none }
def parityJoinsRow : OpenClaim := { program := "ytfcppphchicdfaa", sum := "55ac985b983737872b8795138671e23de1fdcc1b63a2276b67350b398bb9700a", func := "tannoy/tannoylaw06.ParityJoins", spec := "parityJoins", inPlace := ["internal/abi.NoEscape", "internal/bytealg.MakeNoZero"], unfollowed := true, recurses := true, apart := false }
def ParityJoinsSaid : Prop := parityJoinsRow.holds Try.pinned (OpenSpec.ofChange parityJoinsSpec)

/-- ITS FALSE NEIGHBOUR: 'it returns false'. Refute it at one input. -/
def parityJoinsWrong : ChangeSpec := { name := "parityJoins", fn := fun _ => fun
  | [d1, d2, d3, d4, d5, d6, d7, d8, d9] => { results := [.lit (.bool false)], args := [d1, d2, d3, d4, d5, d6, d7, d8, d9] }
  | _ => none }
def ParityJoinsWrongFalsely : Prop := parityJoinsRow.holds Try.pinned (OpenSpec.ofChange parityJoinsWrong)

/-- 'tannoylaw06.ParityXors': WHATEVER THE INPUT: true; the input reads as it did. -/
def parityXorsSpec : ChangeSpec := { name := "parityXors", fn := fun _ => fun
  | [d1, d2, d3] => { results := [.lit (.bool true)], args := [d1, d2, d3] }
  | _ => none }
def parityXorsRow : OpenClaim := { program := "ytfcppphchicdfaa", sum := "55ac985b983737872b8795138671e23de1fdcc1b63a2276b67350b398bb9700a", func := "tannoy/tannoylaw06.ParityXors", spec := "parityXors", inPlace := ["internal/abi.NoEscape", "internal/bytealg.MakeNoZero"], unfollowed := true, recurses := true, apart := false }
def ParityXorsSaid : Prop := parityXorsRow.holds Try.pinned (OpenSpec.ofChange parityXorsSpec)

/-- ITS FALSE NEIGHBOUR: 'it returns false'. Refute it at one input. -/
def parityXorsWrong : ChangeSpec := { name := "parityXors", fn := fun _ => fun
  | [d1, d2, d3] => { results := [.lit (.bool false)], args := [d1, d2, d3] }
  | _ => none }
def ParityXorsWrongFalsely : Prop := parityXorsRow.holds Try.pinned (OpenSpec.ofChange parityXorsWrong)

/-- 'tannoylaw06.ParityCuts': WHATEVER THE INPUT: true; the input reads as it did. -/
def parityCutsSpec : ChangeSpec := { name := "parityCuts", fn := fun _ => fun
  | [d1, d2] => { results := [.lit (.bool true)], args := [d1, d2] }
  | _ => none }
def parityCutsRow : OpenClaim := { program := "ytfcppphchicdfaa", sum := "55ac985b983737872b8795138671e23de1fdcc1b63a2276b67350b398bb9700a", func := "tannoy/tannoylaw06.ParityCuts", spec := "parityCuts", inPlace := ["internal/abi.NoEscape", "internal/bytealg.MakeNoZero"], unfollowed := true, recurses := true, apart := false }
def ParityCutsSaid : Prop := parityCutsRow.holds Try.pinned (OpenSpec.ofChange parityCutsSpec)

/-- ITS FALSE NEIGHBOUR: 'it returns false'. Refute it at one input. -/
def parityCutsWrong : ChangeSpec := { name := "parityCuts", fn := fun _ => fun
  | [d1, d2] => { results := [.lit (.bool false)], args := [d1, d2] }
  | _ => none }
def ParityCutsWrongFalsely : Prop := parityCutsRow.holds Try.pinned (OpenSpec.ofChange parityCutsWrong)

/-- 'tannoylaw06.ParityChanges': WHATEVER THE INPUT: true; the input reads as it did. -/
def parityChangesSpec : ChangeSpec := { name := "parityChanges", fn := fun _ => fun
  | [d1, d2, d3, d4, d5, d6] => { results := [.lit (.bool true)], args := [d1, d2, d3, d4, d5, d6] }
  | _ => none }
def parityChangesRow : OpenClaim := { program := "ytfcppphchicdfaa", sum := "55ac985b983737872b8795138671e23de1fdcc1b63a2276b67350b398bb9700a", func := "tannoy/tannoylaw06.ParityChanges", spec := "parityChanges", inPlace := ["internal/abi.NoEscape", "internal/bytealg.MakeNoZero"], unfollowed := true, recurses := true, apart := false }
def ParityChangesSaid : Prop := parityChangesRow.holds Try.pinned (OpenSpec.ofChange parityChangesSpec)

/-- ITS FALSE NEIGHBOUR: 'it returns false'. Refute it at one input. -/
def parityChangesWrong : ChangeSpec := { name := "parityChanges", fn := fun _ => fun
  | [d1, d2, d3, d4, d5, d6] => { results := [.lit (.bool false)], args := [d1, d2, d3, d4, d5, d6] }
  | _ => none }
def ParityChangesWrongFalsely : Prop := parityChangesRow.holds Try.pinned (OpenSpec.ofChange parityChangesWrong)

/-- 'tannoylaw06.ParityFinds': WHATEVER THE INPUT: true; the input reads as it did. -/
def parityFindsSpec : ChangeSpec := { name := "parityFinds", fn := fun _ => fun
  | [d1, d2] => { results := [.lit (.bool true)], args := [d1, d2] }
  | _ => none }
def parityFindsRow : OpenClaim := { program := "ytfcppphchicdfaa", sum := "55ac985b983737872b8795138671e23de1fdcc1b63a2276b67350b398bb9700a", func := "tannoy/tannoylaw06.ParityFinds", spec := "parityFinds", inPlace := ["internal/abi.NoEscape", "internal/bytealg.MakeNoZero"], unfollowed := true, recurses := true, apart := false }
def ParityFindsSaid : Prop := parityFindsRow.holds Try.pinned (OpenSpec.ofChange parityFindsSpec)

/-- ITS FALSE NEIGHBOUR: 'it returns false'. Refute it at one input. -/
def parityFindsWrong : ChangeSpec := { name := "parityFinds", fn := fun _ => fun
  | [d1, d2] => { results := [.lit (.bool false)], args := [d1, d2] }
  | _ => none }
def ParityFindsWrongFalsely : Prop := parityFindsRow.holds Try.pinned (OpenSpec.ofChange parityFindsWrong)

/-- 'tannoylaw06.ParityKnown': WHATEVER THE INPUT: true; the input reads as it did. -/
def parityKnownSpec : ChangeSpec := { name := "parityKnown", fn := fun _ => fun
  | [] => { results := [.lit (.bool true)], args := [] }
  | _ => none }
def parityKnownRow : OpenClaim := { program := "ytfcppphchicdfaa", sum := "55ac985b983737872b8795138671e23de1fdcc1b63a2276b67350b398bb9700a", func := "tannoy/tannoylaw06.ParityKnown", spec := "parityKnown", inPlace := ["internal/abi.NoEscape", "internal/bytealg.MakeNoZero"], unfollowed := true, recurses := true, apart := false }
def ParityKnownSaid : Prop := parityKnownRow.holds Try.pinned (OpenSpec.ofChange parityKnownSpec)

/-- ITS FALSE NEIGHBOUR: 'it returns false'. Refute it at one input. -/
def parityKnownWrong : ChangeSpec := { name := "parityKnown", fn := fun _ => fun
  | [] => { results := [.lit (.bool false)], args := [] }
  | _ => none }
def ParityKnownWrongFalsely : Prop := parityKnownRow.holds Try.pinned (OpenSpec.ofChange parityKnownWrong)

/- THE SECOND FORM. 'bulk': how many values and letters a reading holds, each counted each time it is reached (what is shared counts as often as it is met; a slice's spare places count too). A statement '..UptoSaid' is the law's where the arguments, and the package variables that the reading takes, are together of bulk at most 1048576: NARROWER than '..Said'. Prove '..Said' where nothing that the law and all that it calls make is longer than what came in: it says more and counts as full. Else prove '..UptoSaid'. A law counts once. -/
mutual
def uptoBulk {H : Type} : DataW H → Nat
  | .lit (.string bytes) => bytes.length + 1
  | .lit _ => 1
  | .nil => 1
  | .ptr d => uptoBulk d + 1
  | .slice elems spare => uptoBulkAll elems + uptoBulkAll spare + 1
  | .agg parts => uptoBulkAll parts + 1
  | .iface _ d => uptoBulk d + 1
  | .map entries => uptoBulkEntries entries + 1
  | .held _ => 1
def uptoBulkAll {H : Type} : List (DataW H) → Nat
  | [] => 0
  | d :: r => uptoBulk d + uptoBulkAll r
def uptoBulkEntries {H : Type} : List (Lit × DataW H) → Nat
  | [] => 0
  | x :: r => uptoBulkEntry x + uptoBulkEntries r
def uptoBulkEntry {H : Type} : Lit × DataW H → Nat
  | (.string bytes, d) => bytes.length + uptoBulk d + 1
  | (_, d) => uptoBulk d + 1
 end
def uptoSmall : (H : Type) → List (DataW H) → Bool := fun _ ds => decide (uptoBulkAll ds ≤ 1048576)
def OpenSpec.upto (s : _root_.Go.ChangeSpec) : _root_.Go.OpenSpec := { _root_.Go.OpenSpec.ofChange s with cond := some uptoSmall }

/-- 'tannoylaw06.ParityChecks', WHERE WHAT IT READS IS OF BULK AT MOST 1048576: true; the input reads as it did. -/
def parityChecksUptoRow : OpenClaim := { program := "ytfcppphchicdfaa", sum := "55ac985b983737872b8795138671e23de1fdcc1b63a2276b67350b398bb9700a", func := "tannoy/tannoylaw06.ParityChecks", spec := "parityChecks", inPlace := ["internal/abi.NoEscape", "internal/bytealg.MakeNoZero"], unfollowed := true, recurses := true, apart := false, narrowed := true }
def ParityChecksUptoSaid : Prop := parityChecksUptoRow.holds Try.pinned (OpenSpec.upto parityChecksSpec)

/-- 'tannoylaw06.ParityJoins', WHERE WHAT IT READS IS OF BULK AT MOST 1048576: true; the input reads as it did. -/
def parityJoinsUptoRow : OpenClaim := { program := "ytfcppphchicdfaa", sum := "55ac985b983737872b8795138671e23de1fdcc1b63a2276b67350b398bb9700a", func := "tannoy/tannoylaw06.ParityJoins", spec := "parityJoins", inPlace := ["internal/abi.NoEscape", "internal/bytealg.MakeNoZero"], unfollowed := true, recurses := true, apart := false, narrowed := true }
def ParityJoinsUptoSaid : Prop := parityJoinsUptoRow.holds Try.pinned (OpenSpec.upto parityJoinsSpec)

/-- 'tannoylaw06.ParityXors', WHERE WHAT IT READS IS OF BULK AT MOST 1048576: true; the input reads as it did. -/
def parityXorsUptoRow : OpenClaim := { program := "ytfcppphchicdfaa", sum := "55ac985b983737872b8795138671e23de1fdcc1b63a2276b67350b398bb9700a", func := "tannoy/tannoylaw06.ParityXors", spec := "parityXors", inPlace := ["internal/abi.NoEscape", "internal/bytealg.MakeNoZero"], unfollowed := true, recurses := true, apart := false, narrowed := true }
def ParityXorsUptoSaid : Prop := parityXorsUptoRow.holds Try.pinned (OpenSpec.upto parityXorsSpec)

/-- 'tannoylaw06.ParityCuts', WHERE WHAT IT READS IS OF BULK AT MOST 1048576: true; the input reads as it did. -/
def parityCutsUptoRow : OpenClaim := { program := "ytfcppphchicdfaa", sum := "55ac985b983737872b8795138671e23de1fdcc1b63a2276b67350b398bb9700a", func := "tannoy/tannoylaw06.ParityCuts", spec := "parityCuts", inPlace := ["internal/abi.NoEscape", "internal/bytealg.MakeNoZero"], unfollowed := true, recurses := true, apart := false, narrowed := true }
def ParityCutsUptoSaid : Prop := parityCutsUptoRow.holds Try.pinned (OpenSpec.upto parityCutsSpec)

/-- 'tannoylaw06.ParityChanges', WHERE WHAT IT READS IS OF BULK AT MOST 1048576: true; the input reads as it did. -/
def parityChangesUptoRow : OpenClaim := { program := "ytfcppphchicdfaa", sum := "55ac985b983737872b8795138671e23de1fdcc1b63a2276b67350b398bb9700a", func := "tannoy/tannoylaw06.ParityChanges", spec := "parityChanges", inPlace := ["internal/abi.NoEscape", "internal/bytealg.MakeNoZero"], unfollowed := true, recurses := true, apart := false, narrowed := true }
def ParityChangesUptoSaid : Prop := parityChangesUptoRow.holds Try.pinned (OpenSpec.upto parityChangesSpec)

/-- 'tannoylaw06.ParityFinds', WHERE WHAT IT READS IS OF BULK AT MOST 1048576: true; the input reads as it did. -/
def parityFindsUptoRow : OpenClaim := { program := "ytfcppphchicdfaa", sum := "55ac985b983737872b8795138671e23de1fdcc1b63a2276b67350b398bb9700a", func := "tannoy/tannoylaw06.ParityFinds", spec := "parityFinds", inPlace := ["internal/abi.NoEscape", "internal/bytealg.MakeNoZero"], unfollowed := true, recurses := true, apart := false, narrowed := true }
def ParityFindsUptoSaid : Prop := parityFindsUptoRow.holds Try.pinned (OpenSpec.upto parityFindsSpec)

/-- 'tannoylaw06.ParityKnown', WHERE WHAT IT READS IS OF BULK AT MOST 1048576: true; the input reads as it did. -/
def parityKnownUptoRow : OpenClaim := { program := "ytfcppphchicdfaa", sum := "55ac985b983737872b8795138671e23de1fdcc1b63a2276b67350b398bb9700a", func := "tannoy/tannoylaw06.ParityKnown", spec := "parityKnown", inPlace := ["internal/abi.NoEscape", "internal/bytealg.MakeNoZero"], unfollowed := true, recurses := true, apart := false, narrowed := true }
def ParityKnownUptoSaid : Prop := parityKnownUptoRow.holds Try.pinned (OpenSpec.upto parityKnownSpec)

end Rows
end Go.Proofs.Ytfcppphchicdfaa
