/-
  No cell of these rows narrows 'for every input' (looked for: loops, veiled, ifaces, maps, wideKeys, modest, calm, conditions, laid).
  DERIVED. THE GIVEN ROWS OF THIS SEAT. 6 by the template 'for every input the law returns true; each argument reads behind the call as it read before'; 0 by the template 'total and deterministic' (their statements: YtgkhcgiggjijlaaGreatTotals.lean).
  GIVEN WITH THE SEED: the statements are not yours to turn. If you find one false, say at which input.
  Laid BY PROGRAM, IN A SANDBOX (cutbox-rows.mjs): the forced cells as the released guide's own fill.sh prints them over the translation 0232f2f85f823f06… (all of the seat's roots in one cut). By AI agents, Wed Nov 11 2026. No macro, syntax, notation, axiom, sorry.
-/
import Derived.Test.YtgkhcgiggjijlaaGreatChecked
import GoSem.Claim
import GoSem.ClaimJoined
import GoSem.ClaimMapViews
import Derived.JoinedTies
import Derived.KernelRfl
namespace Go.Proofs.YtgkhcgiggjijlaaGreat
/- THE CELL 'sum', in the pinned program and in every row, IS THE sha256 OF THE DUMP (.gsa) THAT YtgkhcgiggjijlaaGreatProg.lean LOADS. Nothing in Lean hashes anything: it is a label: what it is worth is what the hold of that sum in a sandbox is worth. -/
noncomputable def Tryz.pinned : Pinned := { name := "ytgkhcgiggjijlaagreat", sum := "0232f2f85f823f06bf659c1b678a207073f640b0862645ec81f10d96acb3144d", checked := Tryz.checked }
namespace Rows
def none {H : Type} : Left H := { results := [], args := [] }

/-- 'tannoylaw12.ConsentMakes': WHATEVER THE INPUT: true; the input reads as it did. -/
def consentMakesSpec : ChangeSpec := { name := "consentMakes", fn := fun _ => fun
  | [d1, d2, d3, d4, d5, d6, d7, d8] => { results := [.lit (.bool true)], args := [d1, d2, d3, d4, d5, d6, d7, d8] }
  | _ => none }
def consentMakesRow : OpenClaim := { program := "ytgkhcgiggjijlaagreat", sum := "0232f2f85f823f06bf659c1b678a207073f640b0862645ec81f10d96acb3144d", func := "tannoy/tannoylaw12.ConsentMakes", spec := "consentMakes", inPlace := ["internal/abi.NoEscape"], unfollowed := true, recurses := true, apart := false }
def ConsentMakesSaid : Prop := consentMakesRow.holds Tryz.pinned (OpenSpec.ofChange consentMakesSpec)

/-- ITS FALSE NEIGHBOUR: 'it returns false'. Refute it at one input. -/
def consentMakesWrong : ChangeSpec := { name := "consentMakes", fn := fun _ => fun
  | [d1, d2, d3, d4, d5, d6, d7, d8] => { results := [.lit (.bool false)], args := [d1, d2, d3, d4, d5, d6, d7, d8] }
  | _ => none }
def ConsentMakesWrongFalsely : Prop := consentMakesRow.holds Tryz.pinned (OpenSpec.ofChange consentMakesWrong)

/-- 'tannoylaw12.ConsentTimes': WHATEVER THE INPUT: true; the input reads as it did. -/
def consentTimesSpec : ChangeSpec := { name := "consentTimes", fn := fun _ => fun
  | [d1, d2, d3, d4, d5] => { results := [.lit (.bool true)], args := [d1, d2, d3, d4, d5] }
  | _ => none }
def consentTimesRow : OpenClaim := { program := "ytgkhcgiggjijlaagreat", sum := "0232f2f85f823f06bf659c1b678a207073f640b0862645ec81f10d96acb3144d", func := "tannoy/tannoylaw12.ConsentTimes", spec := "consentTimes", inPlace := ["internal/abi.NoEscape"], unfollowed := true, recurses := true, apart := false }
def ConsentTimesSaid : Prop := consentTimesRow.holds Tryz.pinned (OpenSpec.ofChange consentTimesSpec)

/-- ITS FALSE NEIGHBOUR: 'it returns false'. Refute it at one input. -/
def consentTimesWrong : ChangeSpec := { name := "consentTimes", fn := fun _ => fun
  | [d1, d2, d3, d4, d5] => { results := [.lit (.bool false)], args := [d1, d2, d3, d4, d5] }
  | _ => none }
def ConsentTimesWrongFalsely : Prop := consentTimesRow.holds Tryz.pinned (OpenSpec.ofChange consentTimesWrong)

/-- 'tannoylaw12.ConsentHears': WHATEVER THE INPUT: true; the input reads as it did. -/
def consentHearsSpec : ChangeSpec := { name := "consentHears", fn := fun _ => fun
  | [d1, d2, d3, d4, d5, d6] => { results := [.lit (.bool true)], args := [d1, d2, d3, d4, d5, d6] }
  | _ => none }
def consentHearsRow : OpenClaim := { program := "ytgkhcgiggjijlaagreat", sum := "0232f2f85f823f06bf659c1b678a207073f640b0862645ec81f10d96acb3144d", func := "tannoy/tannoylaw12.ConsentHears", spec := "consentHears", inPlace := ["internal/abi.NoEscape"], unfollowed := true, recurses := true, apart := false }
def ConsentHearsSaid : Prop := consentHearsRow.holds Tryz.pinned (OpenSpec.ofChange consentHearsSpec)

/-- ITS FALSE NEIGHBOUR: 'it returns false'. Refute it at one input. -/
def consentHearsWrong : ChangeSpec := { name := "consentHears", fn := fun _ => fun
  | [d1, d2, d3, d4, d5, d6] => { results := [.lit (.bool false)], args := [d1, d2, d3, d4, d5, d6] }
  | _ => none }
def ConsentHearsWrongFalsely : Prop := consentHearsRow.holds Tryz.pinned (OpenSpec.ofChange consentHearsWrong)

/-- 'tannoylaw12.ConsentTurns': WHATEVER THE INPUT: true; the input reads as it did. -/
def consentTurnsSpec : ChangeSpec := { name := "consentTurns", fn := fun _ => fun
  | [d1, d2, d3, d4, d5, d6, d7, d8] => { results := [.lit (.bool true)], args := [d1, d2, d3, d4, d5, d6, d7, d8] }
  | _ => none }
def consentTurnsRow : OpenClaim := { program := "ytgkhcgiggjijlaagreat", sum := "0232f2f85f823f06bf659c1b678a207073f640b0862645ec81f10d96acb3144d", func := "tannoy/tannoylaw12.ConsentTurns", spec := "consentTurns", inPlace := ["internal/abi.NoEscape"], unfollowed := true, recurses := true, apart := false }
def ConsentTurnsSaid : Prop := consentTurnsRow.holds Tryz.pinned (OpenSpec.ofChange consentTurnsSpec)

/-- ITS FALSE NEIGHBOUR: 'it returns false'. Refute it at one input. -/
def consentTurnsWrong : ChangeSpec := { name := "consentTurns", fn := fun _ => fun
  | [d1, d2, d3, d4, d5, d6, d7, d8] => { results := [.lit (.bool false)], args := [d1, d2, d3, d4, d5, d6, d7, d8] }
  | _ => none }
def ConsentTurnsWrongFalsely : Prop := consentTurnsRow.holds Tryz.pinned (OpenSpec.ofChange consentTurnsWrong)

/-- 'tannoylaw12.ConsentEnds': WHATEVER THE INPUT: true; the input reads as it did. -/
def consentEndsSpec : ChangeSpec := { name := "consentEnds", fn := fun _ => fun
  | [d1, d2, d3] => { results := [.lit (.bool true)], args := [d1, d2, d3] }
  | _ => none }
def consentEndsRow : OpenClaim := { program := "ytgkhcgiggjijlaagreat", sum := "0232f2f85f823f06bf659c1b678a207073f640b0862645ec81f10d96acb3144d", func := "tannoy/tannoylaw12.ConsentEnds", spec := "consentEnds", inPlace := ["internal/abi.NoEscape"], unfollowed := true, recurses := true, apart := false }
def ConsentEndsSaid : Prop := consentEndsRow.holds Tryz.pinned (OpenSpec.ofChange consentEndsSpec)

/-- ITS FALSE NEIGHBOUR: 'it returns false'. Refute it at one input. -/
def consentEndsWrong : ChangeSpec := { name := "consentEnds", fn := fun _ => fun
  | [d1, d2, d3] => { results := [.lit (.bool false)], args := [d1, d2, d3] }
  | _ => none }
def ConsentEndsWrongFalsely : Prop := consentEndsRow.holds Tryz.pinned (OpenSpec.ofChange consentEndsWrong)

/-- 'tannoylaw12.ConsentStays': WHATEVER THE INPUT: true; the input reads as it did. -/
def consentStaysSpec : ChangeSpec := { name := "consentStays", fn := fun _ => fun
  | [d1, d2] => { results := [.lit (.bool true)], args := [d1, d2] }
  | _ => none }
def consentStaysRow : OpenClaim := { program := "ytgkhcgiggjijlaagreat", sum := "0232f2f85f823f06bf659c1b678a207073f640b0862645ec81f10d96acb3144d", func := "tannoy/tannoylaw12.ConsentStays", spec := "consentStays", inPlace := ["internal/abi.NoEscape"], unfollowed := true, recurses := true, apart := false }
def ConsentStaysSaid : Prop := consentStaysRow.holds Tryz.pinned (OpenSpec.ofChange consentStaysSpec)

/-- ITS FALSE NEIGHBOUR: 'it returns false'. Refute it at one input. -/
def consentStaysWrong : ChangeSpec := { name := "consentStays", fn := fun _ => fun
  | [d1, d2] => { results := [.lit (.bool false)], args := [d1, d2] }
  | _ => none }
def ConsentStaysWrongFalsely : Prop := consentStaysRow.holds Tryz.pinned (OpenSpec.ofChange consentStaysWrong)

/- THE SECOND FORM. 'bulk': how many values and letters a reading holds, each counted each time it is reached (what is shared counts as often as it is met; a slice's spare places count too). A statement '..UptoSaid' is the law's where the arguments, and the package variables that the reading takes, are together of bulk at most 1048576: NARROWER than '..Said'. Prove '..Said' where nothing that the law and all that it calls make is longer than what came in: it says more and counts as full. Else prove '..UptoSaid'. A law counts once. -/
mutual
def uptoBulk {H : Type} : DataW H → Nat
  | .lit (.string bytes) => bytes.length + 1
  | .lit _ => 1
  | .nil => 1
  | .ptr d => uptoBulk d + 1
  | .slice elems spare => uptoBulkAll elems + uptoBulkAll spare + 1
  | .agg parts => uptoBulkAll parts + 1
  | .iface _ d => uptoBulk d + 1
  | .map entries => uptoBulkEntries entries + 1
  | .held _ => 1
def uptoBulkAll {H : Type} : List (DataW H) → Nat
  | [] => 0
  | d :: r => uptoBulk d + uptoBulkAll r
def uptoBulkEntries {H : Type} : List (Lit × DataW H) → Nat
  | [] => 0
  | x :: r => uptoBulkEntry x + uptoBulkEntries r
def uptoBulkEntry {H : Type} : Lit × DataW H → Nat
  | (.string bytes, d) => bytes.length + uptoBulk d + 1
  | (_, d) => uptoBulk d + 1
 end
def uptoSmall : (H : Type) → List (DataW H) → Bool := fun _ ds => decide (uptoBulkAll ds ≤ 1048576)
def OpenSpec.upto (s : _root_.Go.ChangeSpec) : _root_.Go.OpenSpec := { _root_.Go.OpenSpec.ofChange s with cond := some uptoSmall }

/-- 'tannoylaw12.ConsentMakes', WHERE WHAT IT READS IS OF BULK AT MOST 1048576: true; the input reads as it did. -/
def consentMakesUptoRow : OpenClaim := { program := "ytgkhcgiggjijlaagreat", sum := "0232f2f85f823f06bf659c1b678a207073f640b0862645ec81f10d96acb3144d", func := "tannoy/tannoylaw12.ConsentMakes", spec := "consentMakes", inPlace := ["internal/abi.NoEscape"], unfollowed := true, recurses := true, apart := false, narrowed := true }
def ConsentMakesUptoSaid : Prop := consentMakesUptoRow.holds Tryz.pinned (OpenSpec.upto consentMakesSpec)

/-- 'tannoylaw12.ConsentTimes', WHERE WHAT IT READS IS OF BULK AT MOST 1048576: true; the input reads as it did. -/
def consentTimesUptoRow : OpenClaim := { program := "ytgkhcgiggjijlaagreat", sum := "0232f2f85f823f06bf659c1b678a207073f640b0862645ec81f10d96acb3144d", func := "tannoy/tannoylaw12.ConsentTimes", spec := "consentTimes", inPlace := ["internal/abi.NoEscape"], unfollowed := true, recurses := true, apart := false, narrowed := true }
def ConsentTimesUptoSaid : Prop := consentTimesUptoRow.holds Tryz.pinned (OpenSpec.upto consentTimesSpec)

/-- 'tannoylaw12.ConsentHears', WHERE WHAT IT READS IS OF BULK AT MOST 1048576: true; the input reads as it did. -/
def consentHearsUptoRow : OpenClaim := { program := "ytgkhcgiggjijlaagreat", sum := "0232f2f85f823f06bf659c1b678a207073f640b0862645ec81f10d96acb3144d", func := "tannoy/tannoylaw12.ConsentHears", spec := "consentHears", inPlace := ["internal/abi.NoEscape"], unfollowed := true, recurses := true, apart := false, narrowed := true }
def ConsentHearsUptoSaid : Prop := consentHearsUptoRow.holds Tryz.pinned (OpenSpec.upto consentHearsSpec)

/-- 'tannoylaw12.ConsentTurns', WHERE WHAT IT READS IS OF BULK AT MOST 1048576: true; the input reads as it did. -/
def consentTurnsUptoRow : OpenClaim := { program := "ytgkhcgiggjijlaagreat", sum := "0232f2f85f823f06bf659c1b678a207073f640b0862645ec81f10d96acb3144d", func := "tannoy/tannoylaw12.ConsentTurns", spec := "consentTurns", inPlace := ["internal/abi.NoEscape"], unfollowed := true, recurses := true, apart := false, narrowed := true }
def ConsentTurnsUptoSaid : Prop := consentTurnsUptoRow.holds Tryz.pinned (OpenSpec.upto consentTurnsSpec)

/-- 'tannoylaw12.ConsentEnds', WHERE WHAT IT READS IS OF BULK AT MOST 1048576: true; the input reads as it did. -/
def consentEndsUptoRow : OpenClaim := { program := "ytgkhcgiggjijlaagreat", sum := "0232f2f85f823f06bf659c1b678a207073f640b0862645ec81f10d96acb3144d", func := "tannoy/tannoylaw12.ConsentEnds", spec := "consentEnds", inPlace := ["internal/abi.NoEscape"], unfollowed := true, recurses := true, apart := false, narrowed := true }
def ConsentEndsUptoSaid : Prop := consentEndsUptoRow.holds Tryz.pinned (OpenSpec.upto consentEndsSpec)

/-- 'tannoylaw12.ConsentStays', WHERE WHAT IT READS IS OF BULK AT MOST 1048576: true; the input reads as it did. -/
def consentStaysUptoRow : OpenClaim := { program := "ytgkhcgiggjijlaagreat", sum := "0232f2f85f823f06bf659c1b678a207073f640b0862645ec81f10d96acb3144d", func := "tannoy/tannoylaw12.ConsentStays", spec := "consentStays", inPlace := ["internal/abi.NoEscape"], unfollowed := true, recurses := true, apart := false, narrowed := true }
def ConsentStaysUptoSaid : Prop := consentStaysUptoRow.holds Tryz.pinned (OpenSpec.upto consentStaysSpec)

end Rows
end Go.Proofs.YtgkhcgiggjijlaaGreat
