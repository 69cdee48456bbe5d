/-
  NARROWER THAN 'FOR EVERY INPUT', by the rows' own cells (each row's printed sentence says how): StunCodes: laid · StunFinds: laid · StunBack: laid · StunValues: laid · StunMixes: laid · StunMeans: laid · StunHolds: laid · StunGuards: laid · StunKnown: laid.
  DERIVED. THE GIVEN ROWS OF THIS SEAT. 9 by the template 'for every input the law returns true; each argument reads behind the call as it read before'; 0 by the template 'total and deterministic' (their statements: YtmlmfmdmomegpaaGreatDoorTotals.lean).
  GIVEN WITH THE SEED: the statements are not yours to turn. If you find one false, say at which input.
  Laid BY PROGRAM, IN A SANDBOX (cutbox-rows.mjs): the forced cells as the released guide's own fill.sh prints them over the translation 918bc0e934e64cf3… (all of the seat's roots in one cut). By AI agents, Wed Nov 11 2026. No macro, syntax, notation, axiom, sorry.
-/
import Derived.Test.YtmlmfmdmomegpaaGreatDoorChecked
import GoSem.PinnedTables
import GoSem.Claim
import GoSem.ClaimJoined
import GoSem.ClaimMapViews
import Derived.JoinedTies
import Derived.KernelRfl
namespace Go.Proofs.YtmlmfmdmomegpaaGreatDoor
/- THE CELL 'sum', in the pinned program and in every row, IS THE sha256 OF THE DUMP (.gsa) THAT YtmlmfmdmomegpaaGreatDoorProg.lean LOADS. Nothing in Lean hashes anything: it is a label: what it is worth is what the hold of that sum in a sandbox is worth. -/
noncomputable def Tryz.pinned : Pinned := { name := "ytmlmfmdmomegpaagreatdoor", sum := "918bc0e934e64cf3ad25aa50e14ab6eda28ee365ff20b7afd493b1f5d2404e0e", checked := Tryz.checked }
namespace Rows
def none {H : Type} : Left H := { results := [], args := [] }

/- WHAT THE LISTED PACKAGE-LEVEL VARIABLES READ AS WHEN THE CALL BEGINS. Each datum BY PROGRAM (the guide's laid-datum.mjs) off the statement by which the dump's own 'gosem.cut.vars' lays the variable. In a bare row this is a premise. The card (YtmlmfmdmomegpaaGreatDoorCards.lean) ties it to the program's text. -/
def laid_unicode_utf8_acceptRanges {H : Type} : DataW H := .agg [.agg [.lit (.int .u8 128), .lit (.int .u8 191)], .agg [.lit (.int .u8 160), .lit (.int .u8 191)], .agg [.lit (.int .u8 128), .lit (.int .u8 159)], .agg [.lit (.int .u8 144), .lit (.int .u8 191)], .agg [.lit (.int .u8 128), .lit (.int .u8 143)], .agg [.lit (.int .u8 0), .lit (.int .u8 0)], .agg [.lit (.int .u8 0), .lit (.int .u8 0)], .agg [.lit (.int .u8 0), .lit (.int .u8 0)], .agg [.lit (.int .u8 0), .lit (.int .u8 0)], .agg [.lit (.int .u8 0), .lit (.int .u8 0)], .agg [.lit (.int .u8 0), .lit (.int .u8 0)], .agg [.lit (.int .u8 0), .lit (.int .u8 0)], .agg [.lit (.int .u8 0), .lit (.int .u8 0)], .agg [.lit (.int .u8 0), .lit (.int .u8 0)], .agg [.lit (.int .u8 0), .lit (.int .u8 0)], .agg [.lit (.int .u8 0), .lit (.int .u8 0)]]
/-- One of Go's own tables, pinned by name: the form's constant. -/
def laid_unicode_utf8_first : DataW Unit := Go.Pinned.utf8First

/-- 'tannoylaw08.StunCodes': WHATEVER THE INPUT: true; the input reads as it did. -/
def stunCodesSpec : ChangeSpec := { name := "stunCodes", fn := fun _ => fun
  | [d1, d2, d3, d4, d5, d6, d7] => { results := [.lit (.bool true)], args := [d1, d2, d3, d4, d5, d6, d7] }
  | _ => none }
def stunCodesRow : OpenClaim := { program := "ytmlmfmdmomegpaagreatdoor", sum := "918bc0e934e64cf3ad25aa50e14ab6eda28ee365ff20b7afd493b1f5d2404e0e", func := "tannoy/tannoylaw08.StunCodes", spec := "stunCodes", inPlace := ["internal/abi.NoEscape", "internal/bytealg.IndexByteString", "internal/bytealg.IndexString"], unfollowed := true, recurses := true, named := ["unicode/utf8.first", "unicode/utf8.acceptRanges", "internal/bytealg.MaxLen"], apart := false, laid := [("unicode/utf8.acceptRanges", laid_unicode_utf8_acceptRanges), ("unicode/utf8.first", laid_unicode_utf8_first)] }
def StunCodesSaid : Prop := stunCodesRow.holds Tryz.pinned (OpenSpec.ofChange stunCodesSpec)

/-- ITS FALSE NEIGHBOUR: 'it returns false'. Refute it at one input. -/
def stunCodesWrong : ChangeSpec := { name := "stunCodes", fn := fun _ => fun
  | [d1, d2, d3, d4, d5, d6, d7] => { results := [.lit (.bool false)], args := [d1, d2, d3, d4, d5, d6, d7] }
  | _ => none }
def StunCodesWrongFalsely : Prop := stunCodesRow.holds Tryz.pinned (OpenSpec.ofChange stunCodesWrong)

/-- 'tannoylaw08.StunFinds': WHATEVER THE INPUT: true; the input reads as it did. -/
def stunFindsSpec : ChangeSpec := { name := "stunFinds", fn := fun _ => fun
  | [d1, d2, d3, d4, d5, d6] => { results := [.lit (.bool true)], args := [d1, d2, d3, d4, d5, d6] }
  | _ => none }
def stunFindsRow : OpenClaim := { program := "ytmlmfmdmomegpaagreatdoor", sum := "918bc0e934e64cf3ad25aa50e14ab6eda28ee365ff20b7afd493b1f5d2404e0e", func := "tannoy/tannoylaw08.StunFinds", spec := "stunFinds", inPlace := ["internal/abi.NoEscape", "internal/bytealg.IndexByteString", "internal/bytealg.IndexString"], unfollowed := true, recurses := true, named := ["unicode/utf8.first", "unicode/utf8.acceptRanges", "internal/bytealg.MaxLen"], apart := false, laid := [("unicode/utf8.acceptRanges", laid_unicode_utf8_acceptRanges), ("unicode/utf8.first", laid_unicode_utf8_first)] }
def StunFindsSaid : Prop := stunFindsRow.holds Tryz.pinned (OpenSpec.ofChange stunFindsSpec)

/-- ITS FALSE NEIGHBOUR: 'it returns false'. Refute it at one input. -/
def stunFindsWrong : ChangeSpec := { name := "stunFinds", fn := fun _ => fun
  | [d1, d2, d3, d4, d5, d6] => { results := [.lit (.bool false)], args := [d1, d2, d3, d4, d5, d6] }
  | _ => none }
def StunFindsWrongFalsely : Prop := stunFindsRow.holds Tryz.pinned (OpenSpec.ofChange stunFindsWrong)

/-- 'tannoylaw08.StunBack': WHATEVER THE INPUT: true; the input reads as it did. -/
def stunBackSpec : ChangeSpec := { name := "stunBack", fn := fun _ => fun
  | [d1, d2, d3] => { results := [.lit (.bool true)], args := [d1, d2, d3] }
  | _ => none }
def stunBackRow : OpenClaim := { program := "ytmlmfmdmomegpaagreatdoor", sum := "918bc0e934e64cf3ad25aa50e14ab6eda28ee365ff20b7afd493b1f5d2404e0e", func := "tannoy/tannoylaw08.StunBack", spec := "stunBack", inPlace := ["internal/abi.NoEscape", "internal/bytealg.IndexByteString", "internal/bytealg.IndexString"], unfollowed := true, recurses := true, named := ["unicode/utf8.first", "unicode/utf8.acceptRanges", "internal/bytealg.MaxLen"], apart := false, laid := [("unicode/utf8.acceptRanges", laid_unicode_utf8_acceptRanges), ("unicode/utf8.first", laid_unicode_utf8_first)] }
def StunBackSaid : Prop := stunBackRow.holds Tryz.pinned (OpenSpec.ofChange stunBackSpec)

/-- ITS FALSE NEIGHBOUR: 'it returns false'. Refute it at one input. -/
def stunBackWrong : ChangeSpec := { name := "stunBack", fn := fun _ => fun
  | [d1, d2, d3] => { results := [.lit (.bool false)], args := [d1, d2, d3] }
  | _ => none }
def StunBackWrongFalsely : Prop := stunBackRow.holds Tryz.pinned (OpenSpec.ofChange stunBackWrong)

/-- 'tannoylaw08.StunValues': WHATEVER THE INPUT: true; the input reads as it did. -/
def stunValuesSpec : ChangeSpec := { name := "stunValues", fn := fun _ => fun
  | [d1, d2, d3, d4, d5, d6, d7] => { results := [.lit (.bool true)], args := [d1, d2, d3, d4, d5, d6, d7] }
  | _ => none }
def stunValuesRow : OpenClaim := { program := "ytmlmfmdmomegpaagreatdoor", sum := "918bc0e934e64cf3ad25aa50e14ab6eda28ee365ff20b7afd493b1f5d2404e0e", func := "tannoy/tannoylaw08.StunValues", spec := "stunValues", inPlace := ["internal/abi.NoEscape", "internal/bytealg.IndexByteString", "internal/bytealg.IndexString"], unfollowed := true, recurses := true, named := ["unicode/utf8.first", "unicode/utf8.acceptRanges", "internal/bytealg.MaxLen"], apart := false, laid := [("unicode/utf8.acceptRanges", laid_unicode_utf8_acceptRanges), ("unicode/utf8.first", laid_unicode_utf8_first)] }
def StunValuesSaid : Prop := stunValuesRow.holds Tryz.pinned (OpenSpec.ofChange stunValuesSpec)

/-- ITS FALSE NEIGHBOUR: 'it returns false'. Refute it at one input. -/
def stunValuesWrong : ChangeSpec := { name := "stunValues", fn := fun _ => fun
  | [d1, d2, d3, d4, d5, d6, d7] => { results := [.lit (.bool false)], args := [d1, d2, d3, d4, d5, d6, d7] }
  | _ => none }
def StunValuesWrongFalsely : Prop := stunValuesRow.holds Tryz.pinned (OpenSpec.ofChange stunValuesWrong)

/-- 'tannoylaw08.StunMixes': WHATEVER THE INPUT: true; the input reads as it did. -/
def stunMixesSpec : ChangeSpec := { name := "stunMixes", fn := fun _ => fun
  | [d1, d2, d3, d4, d5] => { results := [.lit (.bool true)], args := [d1, d2, d3, d4, d5] }
  | _ => none }
def stunMixesRow : OpenClaim := { program := "ytmlmfmdmomegpaagreatdoor", sum := "918bc0e934e64cf3ad25aa50e14ab6eda28ee365ff20b7afd493b1f5d2404e0e", func := "tannoy/tannoylaw08.StunMixes", spec := "stunMixes", inPlace := ["internal/abi.NoEscape", "internal/bytealg.IndexByteString", "internal/bytealg.IndexString"], unfollowed := true, recurses := true, named := ["unicode/utf8.first", "unicode/utf8.acceptRanges", "internal/bytealg.MaxLen"], apart := false, laid := [("unicode/utf8.acceptRanges", laid_unicode_utf8_acceptRanges), ("unicode/utf8.first", laid_unicode_utf8_first)] }
def StunMixesSaid : Prop := stunMixesRow.holds Tryz.pinned (OpenSpec.ofChange stunMixesSpec)

/-- ITS FALSE NEIGHBOUR: 'it returns false'. Refute it at one input. -/
def stunMixesWrong : ChangeSpec := { name := "stunMixes", fn := fun _ => fun
  | [d1, d2, d3, d4, d5] => { results := [.lit (.bool false)], args := [d1, d2, d3, d4, d5] }
  | _ => none }
def StunMixesWrongFalsely : Prop := stunMixesRow.holds Tryz.pinned (OpenSpec.ofChange stunMixesWrong)

/-- 'tannoylaw08.StunMeans': WHATEVER THE INPUT: true; the input reads as it did. -/
def stunMeansSpec : ChangeSpec := { name := "stunMeans", fn := fun _ => fun
  | [d1, d2] => { results := [.lit (.bool true)], args := [d1, d2] }
  | _ => none }
def stunMeansRow : OpenClaim := { program := "ytmlmfmdmomegpaagreatdoor", sum := "918bc0e934e64cf3ad25aa50e14ab6eda28ee365ff20b7afd493b1f5d2404e0e", func := "tannoy/tannoylaw08.StunMeans", spec := "stunMeans", inPlace := ["internal/abi.NoEscape", "internal/bytealg.IndexByteString", "internal/bytealg.IndexString"], unfollowed := true, recurses := true, named := ["unicode/utf8.first", "unicode/utf8.acceptRanges", "internal/bytealg.MaxLen"], apart := false, laid := [("unicode/utf8.acceptRanges", laid_unicode_utf8_acceptRanges), ("unicode/utf8.first", laid_unicode_utf8_first)] }
def StunMeansSaid : Prop := stunMeansRow.holds Tryz.pinned (OpenSpec.ofChange stunMeansSpec)

/-- ITS FALSE NEIGHBOUR: 'it returns false'. Refute it at one input. -/
def stunMeansWrong : ChangeSpec := { name := "stunMeans", fn := fun _ => fun
  | [d1, d2] => { results := [.lit (.bool false)], args := [d1, d2] }
  | _ => none }
def StunMeansWrongFalsely : Prop := stunMeansRow.holds Tryz.pinned (OpenSpec.ofChange stunMeansWrong)

/-- 'tannoylaw08.StunHolds': WHATEVER THE INPUT: true; the input reads as it did. -/
def stunHoldsSpec : ChangeSpec := { name := "stunHolds", fn := fun _ => fun
  | [d1, d2, d3] => { results := [.lit (.bool true)], args := [d1, d2, d3] }
  | _ => none }
def stunHoldsRow : OpenClaim := { program := "ytmlmfmdmomegpaagreatdoor", sum := "918bc0e934e64cf3ad25aa50e14ab6eda28ee365ff20b7afd493b1f5d2404e0e", func := "tannoy/tannoylaw08.StunHolds", spec := "stunHolds", inPlace := ["internal/abi.NoEscape", "internal/bytealg.IndexByteString", "internal/bytealg.IndexString"], unfollowed := true, recurses := true, named := ["unicode/utf8.first", "unicode/utf8.acceptRanges", "internal/bytealg.MaxLen"], apart := false, laid := [("unicode/utf8.acceptRanges", laid_unicode_utf8_acceptRanges), ("unicode/utf8.first", laid_unicode_utf8_first)] }
def StunHoldsSaid : Prop := stunHoldsRow.holds Tryz.pinned (OpenSpec.ofChange stunHoldsSpec)

/-- ITS FALSE NEIGHBOUR: 'it returns false'. Refute it at one input. -/
def stunHoldsWrong : ChangeSpec := { name := "stunHolds", fn := fun _ => fun
  | [d1, d2, d3] => { results := [.lit (.bool false)], args := [d1, d2, d3] }
  | _ => none }
def StunHoldsWrongFalsely : Prop := stunHoldsRow.holds Tryz.pinned (OpenSpec.ofChange stunHoldsWrong)

/-- 'tannoylaw08.StunGuards': WHATEVER THE INPUT: true; the input reads as it did. -/
def stunGuardsSpec : ChangeSpec := { name := "stunGuards", fn := fun _ => fun
  | [d1, d2, d3, d4, d5, d6] => { results := [.lit (.bool true)], args := [d1, d2, d3, d4, d5, d6] }
  | _ => none }
def stunGuardsRow : OpenClaim := { program := "ytmlmfmdmomegpaagreatdoor", sum := "918bc0e934e64cf3ad25aa50e14ab6eda28ee365ff20b7afd493b1f5d2404e0e", func := "tannoy/tannoylaw08.StunGuards", spec := "stunGuards", inPlace := ["internal/abi.NoEscape", "internal/bytealg.IndexByteString", "internal/bytealg.IndexString", "math/bits.Add64"], unfollowed := true, recurses := true, named := ["unicode/utf8.first", "unicode/utf8.acceptRanges", "internal/bytealg.MaxLen"], apart := false, laid := [("unicode/utf8.acceptRanges", laid_unicode_utf8_acceptRanges), ("unicode/utf8.first", laid_unicode_utf8_first)] }
def StunGuardsSaid : Prop := stunGuardsRow.holds Tryz.pinned (OpenSpec.ofChange stunGuardsSpec)

/-- ITS FALSE NEIGHBOUR: 'it returns false'. Refute it at one input. -/
def stunGuardsWrong : ChangeSpec := { name := "stunGuards", fn := fun _ => fun
  | [d1, d2, d3, d4, d5, d6] => { results := [.lit (.bool false)], args := [d1, d2, d3, d4, d5, d6] }
  | _ => none }
def StunGuardsWrongFalsely : Prop := stunGuardsRow.holds Tryz.pinned (OpenSpec.ofChange stunGuardsWrong)

/-- 'tannoylaw08.StunKnown': WHATEVER THE INPUT: true; the input reads as it did. -/
def stunKnownSpec : ChangeSpec := { name := "stunKnown", fn := fun _ => fun
  | [] => { results := [.lit (.bool true)], args := [] }
  | _ => none }
def stunKnownRow : OpenClaim := { program := "ytmlmfmdmomegpaagreatdoor", sum := "918bc0e934e64cf3ad25aa50e14ab6eda28ee365ff20b7afd493b1f5d2404e0e", func := "tannoy/tannoylaw08.StunKnown", spec := "stunKnown", inPlace := ["internal/abi.NoEscape", "internal/bytealg.IndexByteString", "internal/bytealg.IndexString", "internal/bytealg.MakeNoZero"], unfollowed := true, recurses := true, named := ["unicode/utf8.first", "unicode/utf8.acceptRanges", "internal/bytealg.MaxLen"], apart := false, laid := [("unicode/utf8.acceptRanges", laid_unicode_utf8_acceptRanges), ("unicode/utf8.first", laid_unicode_utf8_first)] }
def StunKnownSaid : Prop := stunKnownRow.holds Tryz.pinned (OpenSpec.ofChange stunKnownSpec)

/-- ITS FALSE NEIGHBOUR: 'it returns false'. Refute it at one input. -/
def stunKnownWrong : ChangeSpec := { name := "stunKnown", fn := fun _ => fun
  | [] => { results := [.lit (.bool false)], args := [] }
  | _ => none }
def StunKnownWrongFalsely : Prop := stunKnownRow.holds Tryz.pinned (OpenSpec.ofChange stunKnownWrong)

/- THE SECOND FORM. 'bulk': how many values and letters a reading holds, each counted each time it is reached (what is shared counts as often as it is met; a slice's spare places count too). A statement '..UptoSaid' is the law's where the arguments, and the package variables that the reading takes, are together of bulk at most 1048576: NARROWER than '..Said'. Prove '..Said' where nothing that the law and all that it calls make is longer than what came in: it says more and counts as full. Else prove '..UptoSaid'. A law counts once. -/
mutual
def uptoBulk {H : Type} : DataW H → Nat
  | .lit (.string bytes) => bytes.length + 1
  | .lit _ => 1
  | .nil => 1
  | .ptr d => uptoBulk d + 1
  | .slice elems spare => uptoBulkAll elems + uptoBulkAll spare + 1
  | .agg parts => uptoBulkAll parts + 1
  | .iface _ d => uptoBulk d + 1
  | .map entries => uptoBulkEntries entries + 1
  | .held _ => 1
def uptoBulkAll {H : Type} : List (DataW H) → Nat
  | [] => 0
  | d :: r => uptoBulk d + uptoBulkAll r
def uptoBulkEntries {H : Type} : List (Lit × DataW H) → Nat
  | [] => 0
  | x :: r => uptoBulkEntry x + uptoBulkEntries r
def uptoBulkEntry {H : Type} : Lit × DataW H → Nat
  | (.string bytes, d) => bytes.length + uptoBulk d + 1
  | (_, d) => uptoBulk d + 1
 end
def uptoSmall : (H : Type) → List (DataW H) → Bool := fun _ ds => decide (uptoBulkAll ds ≤ 1048576)
def OpenSpec.upto (s : _root_.Go.ChangeSpec) : _root_.Go.OpenSpec := { _root_.Go.OpenSpec.ofChange s with cond := some uptoSmall }

/-- 'tannoylaw08.StunCodes', WHERE WHAT IT READS IS OF BULK AT MOST 1048576: true; the input reads as it did. -/
def stunCodesUptoRow : OpenClaim := { program := "ytmlmfmdmomegpaagreatdoor", sum := "918bc0e934e64cf3ad25aa50e14ab6eda28ee365ff20b7afd493b1f5d2404e0e", func := "tannoy/tannoylaw08.StunCodes", spec := "stunCodes", inPlace := ["internal/abi.NoEscape", "internal/bytealg.IndexByteString", "internal/bytealg.IndexString"], unfollowed := true, recurses := true, named := ["unicode/utf8.first", "unicode/utf8.acceptRanges", "internal/bytealg.MaxLen"], apart := false, laid := [("unicode/utf8.acceptRanges", laid_unicode_utf8_acceptRanges), ("unicode/utf8.first", laid_unicode_utf8_first)], narrowed := true }
def StunCodesUptoSaid : Prop := stunCodesUptoRow.holds Tryz.pinned (OpenSpec.upto stunCodesSpec)

/-- 'tannoylaw08.StunFinds', WHERE WHAT IT READS IS OF BULK AT MOST 1048576: true; the input reads as it did. -/
def stunFindsUptoRow : OpenClaim := { program := "ytmlmfmdmomegpaagreatdoor", sum := "918bc0e934e64cf3ad25aa50e14ab6eda28ee365ff20b7afd493b1f5d2404e0e", func := "tannoy/tannoylaw08.StunFinds", spec := "stunFinds", inPlace := ["internal/abi.NoEscape", "internal/bytealg.IndexByteString", "internal/bytealg.IndexString"], unfollowed := true, recurses := true, named := ["unicode/utf8.first", "unicode/utf8.acceptRanges", "internal/bytealg.MaxLen"], apart := false, laid := [("unicode/utf8.acceptRanges", laid_unicode_utf8_acceptRanges), ("unicode/utf8.first", laid_unicode_utf8_first)], narrowed := true }
def StunFindsUptoSaid : Prop := stunFindsUptoRow.holds Tryz.pinned (OpenSpec.upto stunFindsSpec)

/-- 'tannoylaw08.StunBack', WHERE WHAT IT READS IS OF BULK AT MOST 1048576: true; the input reads as it did. -/
def stunBackUptoRow : OpenClaim := { program := "ytmlmfmdmomegpaagreatdoor", sum := "918bc0e934e64cf3ad25aa50e14ab6eda28ee365ff20b7afd493b1f5d2404e0e", func := "tannoy/tannoylaw08.StunBack", spec := "stunBack", inPlace := ["internal/abi.NoEscape", "internal/bytealg.IndexByteString", "internal/bytealg.IndexString"], unfollowed := true, recurses := true, named := ["unicode/utf8.first", "unicode/utf8.acceptRanges", "internal/bytealg.MaxLen"], apart := false, laid := [("unicode/utf8.acceptRanges", laid_unicode_utf8_acceptRanges), ("unicode/utf8.first", laid_unicode_utf8_first)], narrowed := true }
def StunBackUptoSaid : Prop := stunBackUptoRow.holds Tryz.pinned (OpenSpec.upto stunBackSpec)

/-- 'tannoylaw08.StunValues', WHERE WHAT IT READS IS OF BULK AT MOST 1048576: true; the input reads as it did. -/
def stunValuesUptoRow : OpenClaim := { program := "ytmlmfmdmomegpaagreatdoor", sum := "918bc0e934e64cf3ad25aa50e14ab6eda28ee365ff20b7afd493b1f5d2404e0e", func := "tannoy/tannoylaw08.StunValues", spec := "stunValues", inPlace := ["internal/abi.NoEscape", "internal/bytealg.IndexByteString", "internal/bytealg.IndexString"], unfollowed := true, recurses := true, named := ["unicode/utf8.first", "unicode/utf8.acceptRanges", "internal/bytealg.MaxLen"], apart := false, laid := [("unicode/utf8.acceptRanges", laid_unicode_utf8_acceptRanges), ("unicode/utf8.first", laid_unicode_utf8_first)], narrowed := true }
def StunValuesUptoSaid : Prop := stunValuesUptoRow.holds Tryz.pinned (OpenSpec.upto stunValuesSpec)

/-- 'tannoylaw08.StunMixes', WHERE WHAT IT READS IS OF BULK AT MOST 1048576: true; the input reads as it did. -/
def stunMixesUptoRow : OpenClaim := { program := "ytmlmfmdmomegpaagreatdoor", sum := "918bc0e934e64cf3ad25aa50e14ab6eda28ee365ff20b7afd493b1f5d2404e0e", func := "tannoy/tannoylaw08.StunMixes", spec := "stunMixes", inPlace := ["internal/abi.NoEscape", "internal/bytealg.IndexByteString", "internal/bytealg.IndexString"], unfollowed := true, recurses := true, named := ["unicode/utf8.first", "unicode/utf8.acceptRanges", "internal/bytealg.MaxLen"], apart := false, laid := [("unicode/utf8.acceptRanges", laid_unicode_utf8_acceptRanges), ("unicode/utf8.first", laid_unicode_utf8_first)], narrowed := true }
def StunMixesUptoSaid : Prop := stunMixesUptoRow.holds Tryz.pinned (OpenSpec.upto stunMixesSpec)

/-- 'tannoylaw08.StunMeans', WHERE WHAT IT READS IS OF BULK AT MOST 1048576: true; the input reads as it did. -/
def stunMeansUptoRow : OpenClaim := { program := "ytmlmfmdmomegpaagreatdoor", sum := "918bc0e934e64cf3ad25aa50e14ab6eda28ee365ff20b7afd493b1f5d2404e0e", func := "tannoy/tannoylaw08.StunMeans", spec := "stunMeans", inPlace := ["internal/abi.NoEscape", "internal/bytealg.IndexByteString", "internal/bytealg.IndexString"], unfollowed := true, recurses := true, named := ["unicode/utf8.first", "unicode/utf8.acceptRanges", "internal/bytealg.MaxLen"], apart := false, laid := [("unicode/utf8.acceptRanges", laid_unicode_utf8_acceptRanges), ("unicode/utf8.first", laid_unicode_utf8_first)], narrowed := true }
def StunMeansUptoSaid : Prop := stunMeansUptoRow.holds Tryz.pinned (OpenSpec.upto stunMeansSpec)

/-- 'tannoylaw08.StunHolds', WHERE WHAT IT READS IS OF BULK AT MOST 1048576: true; the input reads as it did. -/
def stunHoldsUptoRow : OpenClaim := { program := "ytmlmfmdmomegpaagreatdoor", sum := "918bc0e934e64cf3ad25aa50e14ab6eda28ee365ff20b7afd493b1f5d2404e0e", func := "tannoy/tannoylaw08.StunHolds", spec := "stunHolds", inPlace := ["internal/abi.NoEscape", "internal/bytealg.IndexByteString", "internal/bytealg.IndexString"], unfollowed := true, recurses := true, named := ["unicode/utf8.first", "unicode/utf8.acceptRanges", "internal/bytealg.MaxLen"], apart := false, laid := [("unicode/utf8.acceptRanges", laid_unicode_utf8_acceptRanges), ("unicode/utf8.first", laid_unicode_utf8_first)], narrowed := true }
def StunHoldsUptoSaid : Prop := stunHoldsUptoRow.holds Tryz.pinned (OpenSpec.upto stunHoldsSpec)

/-- 'tannoylaw08.StunGuards', WHERE WHAT IT READS IS OF BULK AT MOST 1048576: true; the input reads as it did. -/
def stunGuardsUptoRow : OpenClaim := { program := "ytmlmfmdmomegpaagreatdoor", sum := "918bc0e934e64cf3ad25aa50e14ab6eda28ee365ff20b7afd493b1f5d2404e0e", func := "tannoy/tannoylaw08.StunGuards", spec := "stunGuards", inPlace := ["internal/abi.NoEscape", "internal/bytealg.IndexByteString", "internal/bytealg.IndexString", "math/bits.Add64"], unfollowed := true, recurses := true, named := ["unicode/utf8.first", "unicode/utf8.acceptRanges", "internal/bytealg.MaxLen"], apart := false, laid := [("unicode/utf8.acceptRanges", laid_unicode_utf8_acceptRanges), ("unicode/utf8.first", laid_unicode_utf8_first)], narrowed := true }
def StunGuardsUptoSaid : Prop := stunGuardsUptoRow.holds Tryz.pinned (OpenSpec.upto stunGuardsSpec)

/-- 'tannoylaw08.StunKnown', WHERE WHAT IT READS IS OF BULK AT MOST 1048576: true; the input reads as it did. -/
def stunKnownUptoRow : OpenClaim := { program := "ytmlmfmdmomegpaagreatdoor", sum := "918bc0e934e64cf3ad25aa50e14ab6eda28ee365ff20b7afd493b1f5d2404e0e", func := "tannoy/tannoylaw08.StunKnown", spec := "stunKnown", inPlace := ["internal/abi.NoEscape", "internal/bytealg.IndexByteString", "internal/bytealg.IndexString", "internal/bytealg.MakeNoZero"], unfollowed := true, recurses := true, named := ["unicode/utf8.first", "unicode/utf8.acceptRanges", "internal/bytealg.MaxLen"], apart := false, laid := [("unicode/utf8.acceptRanges", laid_unicode_utf8_acceptRanges), ("unicode/utf8.first", laid_unicode_utf8_first)], narrowed := true }
def StunKnownUptoSaid : Prop := stunKnownUptoRow.holds Tryz.pinned (OpenSpec.upto stunKnownSpec)

end Rows
end Go.Proofs.YtmlmfmdmomegpaaGreatDoor
