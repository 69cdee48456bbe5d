/-
  No cell of these rows narrows 'for every input' (looked for: loops, veiled, ifaces, maps, wideKeys, modest, calm, conditions, laid).
  DERIVED. THE GIVEN ROWS OF THIS SEAT. 5 by the template 'for every input the law returns true; each argument reads behind the call as it read before'; 0 by the template 'total and deterministic' (their statements: YtppfnacjehiieaaTotals.lean).
  GIVEN WITH THE SEED: the statements are not yours to turn. If you find one false, say at which input.
  Laid BY PROGRAM, IN A SANDBOX (cutbox-rows.mjs): the forced cells as the released guide's own fill.sh prints them over the translation 679921fee35cccc4… (all of the seat's roots in one cut). By AI agents, Wed Nov 11 2026. No macro, syntax, notation, axiom, sorry.
-/
import Derived.Test.YtppfnacjehiieaaChecked
import GoSem.Claim
import GoSem.ClaimJoined
import GoSem.ClaimMapViews
import Derived.JoinedTies
import Derived.KernelRfl
namespace Go.Proofs.Ytppfnacjehiieaa
/- THE CELL 'sum', in the pinned program and in every row, IS THE sha256 OF THE DUMP (.gsa) THAT YtppfnacjehiieaaProg.lean LOADS. Nothing in Lean hashes anything: it is a label: what it is worth is what the hold of that sum in a sandbox is worth. -/
noncomputable def Try.pinned : Pinned := { name := "ytppfnacjehiieaa", sum := "679921fee35cccc43eff309fae9628cc9bc5c38789802c69e409db5fcdc84a23", checked := Try.checked }
namespace Rows
def none {H : Type} : Left H := { results := [], args := [] }

/-- 'tannoylaw03.StreamBlocks': WHATEVER THE INPUT: true; the input reads as it did. -/
def streamBlocksSpec : ChangeSpec := { name := "streamBlocks", fn := fun _ => fun
  | [d1, d2, d3, d4] => { results := [.lit (.bool true)], args := [d1, d2, d3, d4] }
  | _ => none }
def streamBlocksRow : OpenClaim := { program := "ytppfnacjehiieaa", sum := "679921fee35cccc43eff309fae9628cc9bc5c38789802c69e409db5fcdc84a23", func := "tannoy/tannoylaw03.StreamBlocks", spec := "streamBlocks", inPlace := ["internal/abi.NoEscape", "internal/bytealg.MakeNoZero"], unfollowed := true, recurses := true, apart := false }
def StreamBlocksSaid : Prop := streamBlocksRow.holds Try.pinned (OpenSpec.ofChange streamBlocksSpec)

/-- ITS FALSE NEIGHBOUR: 'it returns false'. Refute it at one input. -/
def streamBlocksWrong : ChangeSpec := { name := "streamBlocks", fn := fun _ => fun
  | [d1, d2, d3, d4] => { results := [.lit (.bool false)], args := [d1, d2, d3, d4] }
  | _ => none }
def StreamBlocksWrongFalsely : Prop := streamBlocksRow.holds Try.pinned (OpenSpec.ofChange streamBlocksWrong)

/-- 'tannoylaw03.StreamApplies': WHATEVER THE INPUT: true; the input reads as it did. -/
def streamAppliesSpec : ChangeSpec := { name := "streamApplies", fn := fun _ => fun
  | [d1, d2, d3, d4, d5, d6] => { results := [.lit (.bool true)], args := [d1, d2, d3, d4, d5, d6] }
  | _ => none }
def streamAppliesRow : OpenClaim := { program := "ytppfnacjehiieaa", sum := "679921fee35cccc43eff309fae9628cc9bc5c38789802c69e409db5fcdc84a23", func := "tannoy/tannoylaw03.StreamApplies", spec := "streamApplies", inPlace := ["internal/abi.NoEscape", "internal/bytealg.MakeNoZero"], unfollowed := true, recurses := true, apart := false }
def StreamAppliesSaid : Prop := streamAppliesRow.holds Try.pinned (OpenSpec.ofChange streamAppliesSpec)

/-- ITS FALSE NEIGHBOUR: 'it returns false'. Refute it at one input. -/
def streamAppliesWrong : ChangeSpec := { name := "streamApplies", fn := fun _ => fun
  | [d1, d2, d3, d4, d5, d6] => { results := [.lit (.bool false)], args := [d1, d2, d3, d4, d5, d6] }
  | _ => none }
def StreamAppliesWrongFalsely : Prop := streamAppliesRow.holds Try.pinned (OpenSpec.ofChange streamAppliesWrong)

/-- 'tannoylaw03.StreamUndoes': WHATEVER THE INPUT: true; the input reads as it did. -/
def streamUndoesSpec : ChangeSpec := { name := "streamUndoes", fn := fun _ => fun
  | [d1, d2, d3, d4] => { results := [.lit (.bool true)], args := [d1, d2, d3, d4] }
  | _ => none }
def streamUndoesRow : OpenClaim := { program := "ytppfnacjehiieaa", sum := "679921fee35cccc43eff309fae9628cc9bc5c38789802c69e409db5fcdc84a23", func := "tannoy/tannoylaw03.StreamUndoes", spec := "streamUndoes", inPlace := ["internal/abi.NoEscape", "internal/bytealg.MakeNoZero"], unfollowed := true, recurses := true, apart := false }
def StreamUndoesSaid : Prop := streamUndoesRow.holds Try.pinned (OpenSpec.ofChange streamUndoesSpec)

/-- ITS FALSE NEIGHBOUR: 'it returns false'. Refute it at one input. -/
def streamUndoesWrong : ChangeSpec := { name := "streamUndoes", fn := fun _ => fun
  | [d1, d2, d3, d4] => { results := [.lit (.bool false)], args := [d1, d2, d3, d4] }
  | _ => none }
def StreamUndoesWrongFalsely : Prop := streamUndoesRow.holds Try.pinned (OpenSpec.ofChange streamUndoesWrong)

/-- 'tannoylaw03.StreamCuts': WHATEVER THE INPUT: true; the input reads as it did. -/
def streamCutsSpec : ChangeSpec := { name := "streamCuts", fn := fun _ => fun
  | [d1, d2, d3, d4, d5] => { results := [.lit (.bool true)], args := [d1, d2, d3, d4, d5] }
  | _ => none }
def streamCutsRow : OpenClaim := { program := "ytppfnacjehiieaa", sum := "679921fee35cccc43eff309fae9628cc9bc5c38789802c69e409db5fcdc84a23", func := "tannoy/tannoylaw03.StreamCuts", spec := "streamCuts", inPlace := ["internal/abi.NoEscape", "internal/bytealg.MakeNoZero"], unfollowed := true, recurses := true, apart := false }
def StreamCutsSaid : Prop := streamCutsRow.holds Try.pinned (OpenSpec.ofChange streamCutsSpec)

/-- ITS FALSE NEIGHBOUR: 'it returns false'. Refute it at one input. -/
def streamCutsWrong : ChangeSpec := { name := "streamCuts", fn := fun _ => fun
  | [d1, d2, d3, d4, d5] => { results := [.lit (.bool false)], args := [d1, d2, d3, d4, d5] }
  | _ => none }
def StreamCutsWrongFalsely : Prop := streamCutsRow.holds Try.pinned (OpenSpec.ofChange streamCutsWrong)

/-- 'tannoylaw03.StreamKnown': WHATEVER THE INPUT: true; the input reads as it did. -/
def streamKnownSpec : ChangeSpec := { name := "streamKnown", fn := fun _ => fun
  | [] => { results := [.lit (.bool true)], args := [] }
  | _ => none }
def streamKnownRow : OpenClaim := { program := "ytppfnacjehiieaa", sum := "679921fee35cccc43eff309fae9628cc9bc5c38789802c69e409db5fcdc84a23", func := "tannoy/tannoylaw03.StreamKnown", spec := "streamKnown", inPlace := ["internal/abi.NoEscape", "internal/bytealg.MakeNoZero"], unfollowed := true, recurses := true, apart := false }
def StreamKnownSaid : Prop := streamKnownRow.holds Try.pinned (OpenSpec.ofChange streamKnownSpec)

/-- ITS FALSE NEIGHBOUR: 'it returns false'. Refute it at one input. -/
def streamKnownWrong : ChangeSpec := { name := "streamKnown", fn := fun _ => fun
  | [] => { results := [.lit (.bool false)], args := [] }
  | _ => none }
def StreamKnownWrongFalsely : Prop := streamKnownRow.holds Try.pinned (OpenSpec.ofChange streamKnownWrong)

/- THE SECOND FORM. 'bulk': how many values and letters a reading holds, each counted each time it is reached (what is shared counts as often as it is met; a slice's spare places count too). A statement '..UptoSaid' is the law's where the arguments, and the package variables that the reading takes, are together of bulk at most 1048576: NARROWER than '..Said'. Prove '..Said' where nothing that the law and all that it calls make is longer than what came in: it says more and counts as full. Else prove '..UptoSaid'. A law counts once. -/
mutual
def uptoBulk {H : Type} : DataW H → Nat
  | .lit (.string bytes) => bytes.length + 1
  | .lit _ => 1
  | .nil => 1
  | .ptr d => uptoBulk d + 1
  | .slice elems spare => uptoBulkAll elems + uptoBulkAll spare + 1
  | .agg parts => uptoBulkAll parts + 1
  | .iface _ d => uptoBulk d + 1
  | .map entries => uptoBulkEntries entries + 1
  | .held _ => 1
def uptoBulkAll {H : Type} : List (DataW H) → Nat
  | [] => 0
  | d :: r => uptoBulk d + uptoBulkAll r
def uptoBulkEntries {H : Type} : List (Lit × DataW H) → Nat
  | [] => 0
  | x :: r => uptoBulkEntry x + uptoBulkEntries r
def uptoBulkEntry {H : Type} : Lit × DataW H → Nat
  | (.string bytes, d) => bytes.length + uptoBulk d + 1
  | (_, d) => uptoBulk d + 1
 end
def uptoSmall : (H : Type) → List (DataW H) → Bool := fun _ ds => decide (uptoBulkAll ds ≤ 1048576)
def OpenSpec.upto (s : _root_.Go.ChangeSpec) : _root_.Go.OpenSpec := { _root_.Go.OpenSpec.ofChange s with cond := some uptoSmall }

/-- 'tannoylaw03.StreamBlocks', WHERE WHAT IT READS IS OF BULK AT MOST 1048576: true; the input reads as it did. -/
def streamBlocksUptoRow : OpenClaim := { program := "ytppfnacjehiieaa", sum := "679921fee35cccc43eff309fae9628cc9bc5c38789802c69e409db5fcdc84a23", func := "tannoy/tannoylaw03.StreamBlocks", spec := "streamBlocks", inPlace := ["internal/abi.NoEscape", "internal/bytealg.MakeNoZero"], unfollowed := true, recurses := true, apart := false, narrowed := true }
def StreamBlocksUptoSaid : Prop := streamBlocksUptoRow.holds Try.pinned (OpenSpec.upto streamBlocksSpec)

/-- 'tannoylaw03.StreamApplies', WHERE WHAT IT READS IS OF BULK AT MOST 1048576: true; the input reads as it did. -/
def streamAppliesUptoRow : OpenClaim := { program := "ytppfnacjehiieaa", sum := "679921fee35cccc43eff309fae9628cc9bc5c38789802c69e409db5fcdc84a23", func := "tannoy/tannoylaw03.StreamApplies", spec := "streamApplies", inPlace := ["internal/abi.NoEscape", "internal/bytealg.MakeNoZero"], unfollowed := true, recurses := true, apart := false, narrowed := true }
def StreamAppliesUptoSaid : Prop := streamAppliesUptoRow.holds Try.pinned (OpenSpec.upto streamAppliesSpec)

/-- 'tannoylaw03.StreamUndoes', WHERE WHAT IT READS IS OF BULK AT MOST 1048576: true; the input reads as it did. -/
def streamUndoesUptoRow : OpenClaim := { program := "ytppfnacjehiieaa", sum := "679921fee35cccc43eff309fae9628cc9bc5c38789802c69e409db5fcdc84a23", func := "tannoy/tannoylaw03.StreamUndoes", spec := "streamUndoes", inPlace := ["internal/abi.NoEscape", "internal/bytealg.MakeNoZero"], unfollowed := true, recurses := true, apart := false, narrowed := true }
def StreamUndoesUptoSaid : Prop := streamUndoesUptoRow.holds Try.pinned (OpenSpec.upto streamUndoesSpec)

/-- 'tannoylaw03.StreamCuts', WHERE WHAT IT READS IS OF BULK AT MOST 1048576: true; the input reads as it did. -/
def streamCutsUptoRow : OpenClaim := { program := "ytppfnacjehiieaa", sum := "679921fee35cccc43eff309fae9628cc9bc5c38789802c69e409db5fcdc84a23", func := "tannoy/tannoylaw03.StreamCuts", spec := "streamCuts", inPlace := ["internal/abi.NoEscape", "internal/bytealg.MakeNoZero"], unfollowed := true, recurses := true, apart := false, narrowed := true }
def StreamCutsUptoSaid : Prop := streamCutsUptoRow.holds Try.pinned (OpenSpec.upto streamCutsSpec)

/-- 'tannoylaw03.StreamKnown', WHERE WHAT IT READS IS OF BULK AT MOST 1048576: true; the input reads as it did. -/
def streamKnownUptoRow : OpenClaim := { program := "ytppfnacjehiieaa", sum := "679921fee35cccc43eff309fae9628cc9bc5c38789802c69e409db5fcdc84a23", func := "tannoy/tannoylaw03.StreamKnown", spec := "streamKnown", inPlace := ["internal/abi.NoEscape", "internal/bytealg.MakeNoZero"], unfollowed := true, recurses := true, apart := false, narrowed := true }
def StreamKnownUptoSaid : Prop := streamKnownUptoRow.holds Try.pinned (OpenSpec.upto streamKnownSpec)

end Rows
end Go.Proofs.Ytppfnacjehiieaa
