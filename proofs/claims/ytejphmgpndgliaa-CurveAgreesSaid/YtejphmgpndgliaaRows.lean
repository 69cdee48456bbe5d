/-
  No cell of these rows narrows 'for every input' (looked for: loops, veiled, ifaces, maps, wideKeys, modest, calm, conditions, laid).
  DERIVED. THE GIVEN ROWS OF THIS SEAT. 8 by the template 'for every input the law returns true; each argument reads behind the call as it read before'; 0 by the template 'total and deterministic' (their statements: YtejphmgpndgliaaTotals.lean).
  GIVEN WITH THE SEED: the statements are not yours to turn. If you find one false, say at which input.
  Laid BY PROGRAM, IN A SANDBOX (cutbox-rows.mjs): the forced cells as the released guide's own fill.sh prints them over the translation 9d968f2801e3270f… (all of the seat's roots in one cut). By AI agents, Wed Nov 11 2026. No macro, syntax, notation, axiom, sorry.
-/
import Derived.Test.YtejphmgpndgliaaChecked
import GoSem.Claim
import GoSem.ClaimJoined
import GoSem.ClaimMapViews
import Derived.JoinedTies
import Derived.KernelRfl
namespace Go.Proofs.Ytejphmgpndgliaa
/- THE CELL 'sum', in the pinned program and in every row, IS THE sha256 OF THE DUMP (.gsa) THAT YtejphmgpndgliaaProg.lean LOADS. Nothing in Lean hashes anything: it is a label: what it is worth is what the hold of that sum in a sandbox is worth. -/
noncomputable def Try.pinned : Pinned := { name := "ytejphmgpndgliaa", sum := "9d968f2801e3270fcf1e39979ce706133424c01866d09d21f4f1e57c66359586", checked := Try.checked }
namespace Rows
def none {H : Type} : Left H := { results := [], args := [] }

/-- 'tannoylaw05.CurveShares': WHATEVER THE INPUT: true; the input reads as it did. -/
def curveSharesSpec : ChangeSpec := { name := "curveShares", fn := fun _ => fun
  | [d1, d2] => { results := [.lit (.bool true)], args := [d1, d2] }
  | _ => none }
def curveSharesRow : OpenClaim := { program := "ytejphmgpndgliaa", sum := "9d968f2801e3270fcf1e39979ce706133424c01866d09d21f4f1e57c66359586", func := "tannoy/tannoylaw05.CurveShares", spec := "curveShares", inPlace := ["math/bits.Add64", "internal/abi.NoEscape", "internal/bytealg.MakeNoZero"], unfollowed := true, recurses := true, apart := false }
def CurveSharesSaid : Prop := curveSharesRow.holds Try.pinned (OpenSpec.ofChange curveSharesSpec)

/-- ITS FALSE NEIGHBOUR: 'it returns false'. Refute it at one input. -/
def curveSharesWrong : ChangeSpec := { name := "curveShares", fn := fun _ => fun
  | [d1, d2] => { results := [.lit (.bool false)], args := [d1, d2] }
  | _ => none }
def CurveSharesWrongFalsely : Prop := curveSharesRow.holds Try.pinned (OpenSpec.ofChange curveSharesWrong)

/-- 'tannoylaw05.CurveOrder': WHATEVER THE INPUT: true; the input reads as it did. -/
def curveOrderSpec : ChangeSpec := { name := "curveOrder", fn := fun _ => fun
  | [d1, d2, d3] => { results := [.lit (.bool true)], args := [d1, d2, d3] }
  | _ => none }
def curveOrderRow : OpenClaim := { program := "ytejphmgpndgliaa", sum := "9d968f2801e3270fcf1e39979ce706133424c01866d09d21f4f1e57c66359586", func := "tannoy/tannoylaw05.CurveOrder", spec := "curveOrder", inPlace := ["math/bits.Add64", "internal/abi.NoEscape", "internal/bytealg.MakeNoZero"], unfollowed := true, recurses := true, apart := false }
def CurveOrderSaid : Prop := curveOrderRow.holds Try.pinned (OpenSpec.ofChange curveOrderSpec)

/-- ITS FALSE NEIGHBOUR: 'it returns false'. Refute it at one input. -/
def curveOrderWrong : ChangeSpec := { name := "curveOrder", fn := fun _ => fun
  | [d1, d2, d3] => { results := [.lit (.bool false)], args := [d1, d2, d3] }
  | _ => none }
def CurveOrderWrongFalsely : Prop := curveOrderRow.holds Try.pinned (OpenSpec.ofChange curveOrderWrong)

/-- 'tannoylaw05.CurveSame': WHATEVER THE INPUT: true; the input reads as it did. -/
def curveSameSpec : ChangeSpec := { name := "curveSame", fn := fun _ => fun
  | [d1, d2, d3, d4] => { results := [.lit (.bool true)], args := [d1, d2, d3, d4] }
  | _ => none }
def curveSameRow : OpenClaim := { program := "ytejphmgpndgliaa", sum := "9d968f2801e3270fcf1e39979ce706133424c01866d09d21f4f1e57c66359586", func := "tannoy/tannoylaw05.CurveSame", spec := "curveSame", inPlace := ["math/bits.Add64", "internal/abi.NoEscape", "internal/bytealg.MakeNoZero"], unfollowed := true, recurses := true, apart := false }
def CurveSameSaid : Prop := curveSameRow.holds Try.pinned (OpenSpec.ofChange curveSameSpec)

/-- ITS FALSE NEIGHBOUR: 'it returns false'. Refute it at one input. -/
def curveSameWrong : ChangeSpec := { name := "curveSame", fn := fun _ => fun
  | [d1, d2, d3, d4] => { results := [.lit (.bool false)], args := [d1, d2, d3, d4] }
  | _ => none }
def CurveSameWrongFalsely : Prop := curveSameRow.holds Try.pinned (OpenSpec.ofChange curveSameWrong)

/-- 'tannoylaw05.CurveZero': WHATEVER THE INPUT: true; the input reads as it did. -/
def curveZeroSpec : ChangeSpec := { name := "curveZero", fn := fun _ => fun
  | [d1, d2] => { results := [.lit (.bool true)], args := [d1, d2] }
  | _ => none }
def curveZeroRow : OpenClaim := { program := "ytejphmgpndgliaa", sum := "9d968f2801e3270fcf1e39979ce706133424c01866d09d21f4f1e57c66359586", func := "tannoy/tannoylaw05.CurveZero", spec := "curveZero", inPlace := ["math/bits.Add64", "internal/abi.NoEscape", "internal/bytealg.MakeNoZero"], unfollowed := true, recurses := true, apart := false }
def CurveZeroSaid : Prop := curveZeroRow.holds Try.pinned (OpenSpec.ofChange curveZeroSpec)

/-- ITS FALSE NEIGHBOUR: 'it returns false'. Refute it at one input. -/
def curveZeroWrong : ChangeSpec := { name := "curveZero", fn := fun _ => fun
  | [d1, d2] => { results := [.lit (.bool false)], args := [d1, d2] }
  | _ => none }
def CurveZeroWrongFalsely : Prop := curveZeroRow.holds Try.pinned (OpenSpec.ofChange curveZeroWrong)

/-- 'tannoylaw05.CurveClamps': WHATEVER THE INPUT: true; the input reads as it did. -/
def curveClampsSpec : ChangeSpec := { name := "curveClamps", fn := fun _ => fun
  | [d] => { results := [.lit (.bool true)], args := [d] }
  | _ => none }
def curveClampsRow : OpenClaim := { program := "ytejphmgpndgliaa", sum := "9d968f2801e3270fcf1e39979ce706133424c01866d09d21f4f1e57c66359586", func := "tannoy/tannoylaw05.CurveClamps", spec := "curveClamps", inPlace := ["math/bits.Add64", "internal/abi.NoEscape", "internal/bytealg.MakeNoZero"], unfollowed := true, recurses := true, apart := false }
def CurveClampsSaid : Prop := curveClampsRow.holds Try.pinned (OpenSpec.ofChange curveClampsSpec)

/-- ITS FALSE NEIGHBOUR: 'it returns false'. Refute it at one input. -/
def curveClampsWrong : ChangeSpec := { name := "curveClamps", fn := fun _ => fun
  | [d] => { results := [.lit (.bool false)], args := [d] }
  | _ => none }
def CurveClampsWrongFalsely : Prop := curveClampsRow.holds Try.pinned (OpenSpec.ofChange curveClampsWrong)

/-- 'tannoylaw05.CurveShows': WHATEVER THE INPUT: true; the input reads as it did. -/
def curveShowsSpec : ChangeSpec := { name := "curveShows", fn := fun _ => fun
  | [d] => { results := [.lit (.bool true)], args := [d] }
  | _ => none }
def curveShowsRow : OpenClaim := { program := "ytejphmgpndgliaa", sum := "9d968f2801e3270fcf1e39979ce706133424c01866d09d21f4f1e57c66359586", func := "tannoy/tannoylaw05.CurveShows", spec := "curveShows", inPlace := ["math/bits.Add64", "internal/abi.NoEscape", "internal/bytealg.MakeNoZero"], unfollowed := true, recurses := true, apart := false }
def CurveShowsSaid : Prop := curveShowsRow.holds Try.pinned (OpenSpec.ofChange curveShowsSpec)

/-- ITS FALSE NEIGHBOUR: 'it returns false'. Refute it at one input. -/
def curveShowsWrong : ChangeSpec := { name := "curveShows", fn := fun _ => fun
  | [d] => { results := [.lit (.bool false)], args := [d] }
  | _ => none }
def CurveShowsWrongFalsely : Prop := curveShowsRow.holds Try.pinned (OpenSpec.ofChange curveShowsWrong)

/-- 'tannoylaw05.CurveAgrees': WHATEVER THE INPUT: true; the input reads as it did. -/
def curveAgreesSpec : ChangeSpec := { name := "curveAgrees", fn := fun _ => fun
  | [d1, d2] => { results := [.lit (.bool true)], args := [d1, d2] }
  | _ => none }
def curveAgreesRow : OpenClaim := { program := "ytejphmgpndgliaa", sum := "9d968f2801e3270fcf1e39979ce706133424c01866d09d21f4f1e57c66359586", func := "tannoy/tannoylaw05.CurveAgrees", spec := "curveAgrees", inPlace := ["math/bits.Add64", "internal/abi.NoEscape", "internal/bytealg.MakeNoZero"], unfollowed := true, recurses := true, apart := false }
def CurveAgreesSaid : Prop := curveAgreesRow.holds Try.pinned (OpenSpec.ofChange curveAgreesSpec)

/-- ITS FALSE NEIGHBOUR: 'it returns false'. Refute it at one input. -/
def curveAgreesWrong : ChangeSpec := { name := "curveAgrees", fn := fun _ => fun
  | [d1, d2] => { results := [.lit (.bool false)], args := [d1, d2] }
  | _ => none }
def CurveAgreesWrongFalsely : Prop := curveAgreesRow.holds Try.pinned (OpenSpec.ofChange curveAgreesWrong)

/-- 'tannoylaw05.CurveKnown': WHATEVER THE INPUT: true; the input reads as it did. -/
def curveKnownSpec : ChangeSpec := { name := "curveKnown", fn := fun _ => fun
  | [] => { results := [.lit (.bool true)], args := [] }
  | _ => none }
def curveKnownRow : OpenClaim := { program := "ytejphmgpndgliaa", sum := "9d968f2801e3270fcf1e39979ce706133424c01866d09d21f4f1e57c66359586", func := "tannoy/tannoylaw05.CurveKnown", spec := "curveKnown", inPlace := ["math/bits.Add64", "internal/abi.NoEscape", "internal/bytealg.MakeNoZero"], unfollowed := true, recurses := true, apart := false }
def CurveKnownSaid : Prop := curveKnownRow.holds Try.pinned (OpenSpec.ofChange curveKnownSpec)

/-- ITS FALSE NEIGHBOUR: 'it returns false'. Refute it at one input. -/
def curveKnownWrong : ChangeSpec := { name := "curveKnown", fn := fun _ => fun
  | [] => { results := [.lit (.bool false)], args := [] }
  | _ => none }
def CurveKnownWrongFalsely : Prop := curveKnownRow.holds Try.pinned (OpenSpec.ofChange curveKnownWrong)

/- THE SECOND FORM. 'bulk': how many values and letters a reading holds, each counted each time it is reached (what is shared counts as often as it is met; a slice's spare places count too). A statement '..UptoSaid' is the law's where the arguments, and the package variables that the reading takes, are together of bulk at most 1048576: NARROWER than '..Said'. Prove '..Said' where nothing that the law and all that it calls make is longer than what came in: it says more and counts as full. Else prove '..UptoSaid'. A law counts once. -/
mutual
def uptoBulk {H : Type} : DataW H → Nat
  | .lit (.string bytes) => bytes.length + 1
  | .lit _ => 1
  | .nil => 1
  | .ptr d => uptoBulk d + 1
  | .slice elems spare => uptoBulkAll elems + uptoBulkAll spare + 1
  | .agg parts => uptoBulkAll parts + 1
  | .iface _ d => uptoBulk d + 1
  | .map entries => uptoBulkEntries entries + 1
  | .held _ => 1
def uptoBulkAll {H : Type} : List (DataW H) → Nat
  | [] => 0
  | d :: r => uptoBulk d + uptoBulkAll r
def uptoBulkEntries {H : Type} : List (Lit × DataW H) → Nat
  | [] => 0
  | x :: r => uptoBulkEntry x + uptoBulkEntries r
def uptoBulkEntry {H : Type} : Lit × DataW H → Nat
  | (.string bytes, d) => bytes.length + uptoBulk d + 1
  | (_, d) => uptoBulk d + 1
 end
def uptoSmall : (H : Type) → List (DataW H) → Bool := fun _ ds => decide (uptoBulkAll ds ≤ 1048576)
def OpenSpec.upto (s : _root_.Go.ChangeSpec) : _root_.Go.OpenSpec := { _root_.Go.OpenSpec.ofChange s with cond := some uptoSmall }

/-- 'tannoylaw05.CurveShares', WHERE WHAT IT READS IS OF BULK AT MOST 1048576: true; the input reads as it did. -/
def curveSharesUptoRow : OpenClaim := { program := "ytejphmgpndgliaa", sum := "9d968f2801e3270fcf1e39979ce706133424c01866d09d21f4f1e57c66359586", func := "tannoy/tannoylaw05.CurveShares", spec := "curveShares", inPlace := ["math/bits.Add64", "internal/abi.NoEscape", "internal/bytealg.MakeNoZero"], unfollowed := true, recurses := true, apart := false, narrowed := true }
def CurveSharesUptoSaid : Prop := curveSharesUptoRow.holds Try.pinned (OpenSpec.upto curveSharesSpec)

/-- 'tannoylaw05.CurveOrder', WHERE WHAT IT READS IS OF BULK AT MOST 1048576: true; the input reads as it did. -/
def curveOrderUptoRow : OpenClaim := { program := "ytejphmgpndgliaa", sum := "9d968f2801e3270fcf1e39979ce706133424c01866d09d21f4f1e57c66359586", func := "tannoy/tannoylaw05.CurveOrder", spec := "curveOrder", inPlace := ["math/bits.Add64", "internal/abi.NoEscape", "internal/bytealg.MakeNoZero"], unfollowed := true, recurses := true, apart := false, narrowed := true }
def CurveOrderUptoSaid : Prop := curveOrderUptoRow.holds Try.pinned (OpenSpec.upto curveOrderSpec)

/-- 'tannoylaw05.CurveSame', WHERE WHAT IT READS IS OF BULK AT MOST 1048576: true; the input reads as it did. -/
def curveSameUptoRow : OpenClaim := { program := "ytejphmgpndgliaa", sum := "9d968f2801e3270fcf1e39979ce706133424c01866d09d21f4f1e57c66359586", func := "tannoy/tannoylaw05.CurveSame", spec := "curveSame", inPlace := ["math/bits.Add64", "internal/abi.NoEscape", "internal/bytealg.MakeNoZero"], unfollowed := true, recurses := true, apart := false, narrowed := true }
def CurveSameUptoSaid : Prop := curveSameUptoRow.holds Try.pinned (OpenSpec.upto curveSameSpec)

/-- 'tannoylaw05.CurveZero', WHERE WHAT IT READS IS OF BULK AT MOST 1048576: true; the input reads as it did. -/
def curveZeroUptoRow : OpenClaim := { program := "ytejphmgpndgliaa", sum := "9d968f2801e3270fcf1e39979ce706133424c01866d09d21f4f1e57c66359586", func := "tannoy/tannoylaw05.CurveZero", spec := "curveZero", inPlace := ["math/bits.Add64", "internal/abi.NoEscape", "internal/bytealg.MakeNoZero"], unfollowed := true, recurses := true, apart := false, narrowed := true }
def CurveZeroUptoSaid : Prop := curveZeroUptoRow.holds Try.pinned (OpenSpec.upto curveZeroSpec)

/-- 'tannoylaw05.CurveClamps', WHERE WHAT IT READS IS OF BULK AT MOST 1048576: true; the input reads as it did. -/
def curveClampsUptoRow : OpenClaim := { program := "ytejphmgpndgliaa", sum := "9d968f2801e3270fcf1e39979ce706133424c01866d09d21f4f1e57c66359586", func := "tannoy/tannoylaw05.CurveClamps", spec := "curveClamps", inPlace := ["math/bits.Add64", "internal/abi.NoEscape", "internal/bytealg.MakeNoZero"], unfollowed := true, recurses := true, apart := false, narrowed := true }
def CurveClampsUptoSaid : Prop := curveClampsUptoRow.holds Try.pinned (OpenSpec.upto curveClampsSpec)

/-- 'tannoylaw05.CurveShows', WHERE WHAT IT READS IS OF BULK AT MOST 1048576: true; the input reads as it did. -/
def curveShowsUptoRow : OpenClaim := { program := "ytejphmgpndgliaa", sum := "9d968f2801e3270fcf1e39979ce706133424c01866d09d21f4f1e57c66359586", func := "tannoy/tannoylaw05.CurveShows", spec := "curveShows", inPlace := ["math/bits.Add64", "internal/abi.NoEscape", "internal/bytealg.MakeNoZero"], unfollowed := true, recurses := true, apart := false, narrowed := true }
def CurveShowsUptoSaid : Prop := curveShowsUptoRow.holds Try.pinned (OpenSpec.upto curveShowsSpec)

/-- 'tannoylaw05.CurveAgrees', WHERE WHAT IT READS IS OF BULK AT MOST 1048576: true; the input reads as it did. -/
def curveAgreesUptoRow : OpenClaim := { program := "ytejphmgpndgliaa", sum := "9d968f2801e3270fcf1e39979ce706133424c01866d09d21f4f1e57c66359586", func := "tannoy/tannoylaw05.CurveAgrees", spec := "curveAgrees", inPlace := ["math/bits.Add64", "internal/abi.NoEscape", "internal/bytealg.MakeNoZero"], unfollowed := true, recurses := true, apart := false, narrowed := true }
def CurveAgreesUptoSaid : Prop := curveAgreesUptoRow.holds Try.pinned (OpenSpec.upto curveAgreesSpec)

/-- 'tannoylaw05.CurveKnown', WHERE WHAT IT READS IS OF BULK AT MOST 1048576: true; the input reads as it did. -/
def curveKnownUptoRow : OpenClaim := { program := "ytejphmgpndgliaa", sum := "9d968f2801e3270fcf1e39979ce706133424c01866d09d21f4f1e57c66359586", func := "tannoy/tannoylaw05.CurveKnown", spec := "curveKnown", inPlace := ["math/bits.Add64", "internal/abi.NoEscape", "internal/bytealg.MakeNoZero"], unfollowed := true, recurses := true, apart := false, narrowed := true }
def CurveKnownUptoSaid : Prop := curveKnownUptoRow.holds Try.pinned (OpenSpec.upto curveKnownSpec)

end Rows
end Go.Proofs.Ytejphmgpndgliaa
