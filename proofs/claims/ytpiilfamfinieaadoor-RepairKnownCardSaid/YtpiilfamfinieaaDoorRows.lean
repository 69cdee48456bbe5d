/-
  NARROWER THAN 'FOR EVERY INPUT', by the rows' own cells (each row's printed sentence says how): RepairCovers: laid · RepairPlans: laid · RepairMakes: laid · RepairTrue: laid · RepairGreatest: laid · RepairMore: laid · RepairKnown: laid.
  DERIVED. THE GIVEN ROWS OF THIS SEAT. 7 by the template 'for every input the law returns true; each argument reads behind the call as it read before'; 0 by the template 'total and deterministic' (their statements: YtpiilfamfinieaaDoorTotals.lean).
  GIVEN WITH THE SEED: the statements are not yours to turn. If you find one false, say at which input.
  Laid BY PROGRAM, IN A SANDBOX (cutbox-rows.mjs): the forced cells as the released guide's own fill.sh prints them over the translation a921f089e43ed4b4… (all of the seat's roots in one cut). By AI agents, Wed Nov 11 2026. No macro, syntax, notation, axiom, sorry.
-/
import Derived.Test.YtpiilfamfinieaaDoorChecked
import GoSem.Claim
import GoSem.ClaimJoined
import GoSem.ClaimMapViews
import Derived.JoinedTies
import Derived.KernelRfl
namespace Go.Proofs.YtpiilfamfinieaaDoor
/- THE CELL 'sum', in the pinned program and in every row, IS THE sha256 OF THE DUMP (.gsa) THAT YtpiilfamfinieaaDoorProg.lean LOADS. Nothing in Lean hashes anything: it is a label: what it is worth is what the hold of that sum in a sandbox is worth. -/
noncomputable def Tryd.pinned : Pinned := { name := "ytpiilfamfinieaadoor", sum := "a921f089e43ed4b43a2f0e651da86abddc97c97f97a814077de29beb0729d64c", checked := Tryd.checked }
namespace Rows
def none {H : Type} : Left H := { results := [], args := [] }

/- WHAT THE LISTED PACKAGE-LEVEL VARIABLES READ AS WHEN THE CALL BEGINS. Each datum BY PROGRAM (the guide's laid-datum.mjs) off the statement by which the dump's own 'gosem.cut.vars' lays the variable. In a bare row this is a premise. The card (YtpiilfamfinieaaDoorCards.lean) ties it to the program's text. -/
def laid_math_bits_deBruijn32tab {H : Type} : DataW H := .agg [.lit (.int .u8 0), .lit (.int .u8 1), .lit (.int .u8 28), .lit (.int .u8 2), .lit (.int .u8 29), .lit (.int .u8 14), .lit (.int .u8 24), .lit (.int .u8 3), .lit (.int .u8 30), .lit (.int .u8 22), .lit (.int .u8 20), .lit (.int .u8 15), .lit (.int .u8 25), .lit (.int .u8 17), .lit (.int .u8 4), .lit (.int .u8 8), .lit (.int .u8 31), .lit (.int .u8 27), .lit (.int .u8 13), .lit (.int .u8 23), .lit (.int .u8 21), .lit (.int .u8 19), .lit (.int .u8 16), .lit (.int .u8 7), .lit (.int .u8 26), .lit (.int .u8 12), .lit (.int .u8 18), .lit (.int .u8 6), .lit (.int .u8 11), .lit (.int .u8 5), .lit (.int .u8 10), .lit (.int .u8 9)]
def laid_math_bits_deBruijn64tab {H : Type} : DataW H := .agg [.lit (.int .u8 0), .lit (.int .u8 1), .lit (.int .u8 56), .lit (.int .u8 2), .lit (.int .u8 57), .lit (.int .u8 49), .lit (.int .u8 28), .lit (.int .u8 3), .lit (.int .u8 61), .lit (.int .u8 58), .lit (.int .u8 42), .lit (.int .u8 50), .lit (.int .u8 38), .lit (.int .u8 29), .lit (.int .u8 17), .lit (.int .u8 4), .lit (.int .u8 62), .lit (.int .u8 47), .lit (.int .u8 59), .lit (.int .u8 36), .lit (.int .u8 45), .lit (.int .u8 43), .lit (.int .u8 51), .lit (.int .u8 22), .lit (.int .u8 53), .lit (.int .u8 39), .lit (.int .u8 33), .lit (.int .u8 30), .lit (.int .u8 24), .lit (.int .u8 18), .lit (.int .u8 12), .lit (.int .u8 5), .lit (.int .u8 63), .lit (.int .u8 55), .lit (.int .u8 48), .lit (.int .u8 27), .lit (.int .u8 60), .lit (.int .u8 41), .lit (.int .u8 37), .lit (.int .u8 16), .lit (.int .u8 46), .lit (.int .u8 35), .lit (.int .u8 44), .lit (.int .u8 21), .lit (.int .u8 52), .lit (.int .u8 32), .lit (.int .u8 23), .lit (.int .u8 11), .lit (.int .u8 54), .lit (.int .u8 26), .lit (.int .u8 40), .lit (.int .u8 15), .lit (.int .u8 34), .lit (.int .u8 20), .lit (.int .u8 31), .lit (.int .u8 10), .lit (.int .u8 25), .lit (.int .u8 14), .lit (.int .u8 19), .lit (.int .u8 9), .lit (.int .u8 13), .lit (.int .u8 8), .lit (.int .u8 7), .lit (.int .u8 6)]

/-- 'tannoylaw27.RepairCovers': WHATEVER THE INPUT: true; the input reads as it did. -/
def repairCoversSpec : ChangeSpec := { name := "repairCovers", fn := fun _ => fun
  | [d1, d2, d3, d4, d5] => { results := [.lit (.bool true)], args := [d1, d2, d3, d4, d5] }
  | _ => none }
def repairCoversRow : OpenClaim := { program := "ytpiilfamfinieaadoor", sum := "a921f089e43ed4b43a2f0e651da86abddc97c97f97a814077de29beb0729d64c", func := "tannoy/tannoylaw27.RepairCovers", spec := "repairCovers", unfollowed := true, recurses := true, named := ["math/bits.deBruijn32tab", "math/bits.deBruijn64tab"], apart := false, laid := [("math/bits.deBruijn32tab", laid_math_bits_deBruijn32tab), ("math/bits.deBruijn64tab", laid_math_bits_deBruijn64tab)] }
def RepairCoversSaid : Prop := repairCoversRow.holds Tryd.pinned (OpenSpec.ofChange repairCoversSpec)

/-- ITS FALSE NEIGHBOUR: 'it returns false'. Refute it at one input. -/
def repairCoversWrong : ChangeSpec := { name := "repairCovers", fn := fun _ => fun
  | [d1, d2, d3, d4, d5] => { results := [.lit (.bool false)], args := [d1, d2, d3, d4, d5] }
  | _ => none }
def RepairCoversWrongFalsely : Prop := repairCoversRow.holds Tryd.pinned (OpenSpec.ofChange repairCoversWrong)

/-- 'tannoylaw27.RepairPlans': WHATEVER THE INPUT: true; the input reads as it did. -/
def repairPlansSpec : ChangeSpec := { name := "repairPlans", fn := fun _ => fun
  | [d1, d2, d3, d4] => { results := [.lit (.bool true)], args := [d1, d2, d3, d4] }
  | _ => none }
def repairPlansRow : OpenClaim := { program := "ytpiilfamfinieaadoor", sum := "a921f089e43ed4b43a2f0e651da86abddc97c97f97a814077de29beb0729d64c", func := "tannoy/tannoylaw27.RepairPlans", spec := "repairPlans", unfollowed := true, recurses := true, named := ["math/bits.deBruijn32tab", "math/bits.deBruijn64tab"], apart := false, laid := [("math/bits.deBruijn32tab", laid_math_bits_deBruijn32tab), ("math/bits.deBruijn64tab", laid_math_bits_deBruijn64tab)] }
def RepairPlansSaid : Prop := repairPlansRow.holds Tryd.pinned (OpenSpec.ofChange repairPlansSpec)

/-- ITS FALSE NEIGHBOUR: 'it returns false'. Refute it at one input. -/
def repairPlansWrong : ChangeSpec := { name := "repairPlans", fn := fun _ => fun
  | [d1, d2, d3, d4] => { results := [.lit (.bool false)], args := [d1, d2, d3, d4] }
  | _ => none }
def RepairPlansWrongFalsely : Prop := repairPlansRow.holds Tryd.pinned (OpenSpec.ofChange repairPlansWrong)

/-- 'tannoylaw27.RepairMakes': WHATEVER THE INPUT: true; the input reads as it did. -/
def repairMakesSpec : ChangeSpec := { name := "repairMakes", fn := fun _ => fun
  | [d1, d2, d3, d4] => { results := [.lit (.bool true)], args := [d1, d2, d3, d4] }
  | _ => none }
def repairMakesRow : OpenClaim := { program := "ytpiilfamfinieaadoor", sum := "a921f089e43ed4b43a2f0e651da86abddc97c97f97a814077de29beb0729d64c", func := "tannoy/tannoylaw27.RepairMakes", spec := "repairMakes", unfollowed := true, recurses := true, named := ["math/bits.deBruijn32tab", "math/bits.deBruijn64tab"], apart := false, laid := [("math/bits.deBruijn32tab", laid_math_bits_deBruijn32tab), ("math/bits.deBruijn64tab", laid_math_bits_deBruijn64tab)] }
def RepairMakesSaid : Prop := repairMakesRow.holds Tryd.pinned (OpenSpec.ofChange repairMakesSpec)

/-- ITS FALSE NEIGHBOUR: 'it returns false'. Refute it at one input. -/
def repairMakesWrong : ChangeSpec := { name := "repairMakes", fn := fun _ => fun
  | [d1, d2, d3, d4] => { results := [.lit (.bool false)], args := [d1, d2, d3, d4] }
  | _ => none }
def RepairMakesWrongFalsely : Prop := repairMakesRow.holds Tryd.pinned (OpenSpec.ofChange repairMakesWrong)

/-- 'tannoylaw27.RepairTrue': WHATEVER THE INPUT: true; the input reads as it did. -/
def repairTrueSpec : ChangeSpec := { name := "repairTrue", fn := fun _ => fun
  | [d1, d2, d3] => { results := [.lit (.bool true)], args := [d1, d2, d3] }
  | _ => none }
def repairTrueRow : OpenClaim := { program := "ytpiilfamfinieaadoor", sum := "a921f089e43ed4b43a2f0e651da86abddc97c97f97a814077de29beb0729d64c", func := "tannoy/tannoylaw27.RepairTrue", spec := "repairTrue", unfollowed := true, recurses := true, named := ["math/bits.deBruijn32tab", "math/bits.deBruijn64tab"], apart := false, laid := [("math/bits.deBruijn32tab", laid_math_bits_deBruijn32tab), ("math/bits.deBruijn64tab", laid_math_bits_deBruijn64tab)] }
def RepairTrueSaid : Prop := repairTrueRow.holds Tryd.pinned (OpenSpec.ofChange repairTrueSpec)

/-- ITS FALSE NEIGHBOUR: 'it returns false'. Refute it at one input. -/
def repairTrueWrong : ChangeSpec := { name := "repairTrue", fn := fun _ => fun
  | [d1, d2, d3] => { results := [.lit (.bool false)], args := [d1, d2, d3] }
  | _ => none }
def RepairTrueWrongFalsely : Prop := repairTrueRow.holds Tryd.pinned (OpenSpec.ofChange repairTrueWrong)

/-- 'tannoylaw27.RepairGreatest': WHATEVER THE INPUT: true; the input reads as it did. -/
def repairGreatestSpec : ChangeSpec := { name := "repairGreatest", fn := fun _ => fun
  | [d1, d2, d3] => { results := [.lit (.bool true)], args := [d1, d2, d3] }
  | _ => none }
def repairGreatestRow : OpenClaim := { program := "ytpiilfamfinieaadoor", sum := "a921f089e43ed4b43a2f0e651da86abddc97c97f97a814077de29beb0729d64c", func := "tannoy/tannoylaw27.RepairGreatest", spec := "repairGreatest", unfollowed := true, recurses := true, named := ["math/bits.deBruijn32tab", "math/bits.deBruijn64tab"], apart := false, laid := [("math/bits.deBruijn32tab", laid_math_bits_deBruijn32tab), ("math/bits.deBruijn64tab", laid_math_bits_deBruijn64tab)] }
def RepairGreatestSaid : Prop := repairGreatestRow.holds Tryd.pinned (OpenSpec.ofChange repairGreatestSpec)

/-- ITS FALSE NEIGHBOUR: 'it returns false'. Refute it at one input. -/
def repairGreatestWrong : ChangeSpec := { name := "repairGreatest", fn := fun _ => fun
  | [d1, d2, d3] => { results := [.lit (.bool false)], args := [d1, d2, d3] }
  | _ => none }
def RepairGreatestWrongFalsely : Prop := repairGreatestRow.holds Tryd.pinned (OpenSpec.ofChange repairGreatestWrong)

/-- 'tannoylaw27.RepairMore': WHATEVER THE INPUT: true; the input reads as it did. -/
def repairMoreSpec : ChangeSpec := { name := "repairMore", fn := fun _ => fun
  | [d1, d2, d3] => { results := [.lit (.bool true)], args := [d1, d2, d3] }
  | _ => none }
def repairMoreRow : OpenClaim := { program := "ytpiilfamfinieaadoor", sum := "a921f089e43ed4b43a2f0e651da86abddc97c97f97a814077de29beb0729d64c", func := "tannoy/tannoylaw27.RepairMore", spec := "repairMore", unfollowed := true, recurses := true, named := ["math/bits.deBruijn32tab", "math/bits.deBruijn64tab"], apart := false, laid := [("math/bits.deBruijn32tab", laid_math_bits_deBruijn32tab), ("math/bits.deBruijn64tab", laid_math_bits_deBruijn64tab)] }
def RepairMoreSaid : Prop := repairMoreRow.holds Tryd.pinned (OpenSpec.ofChange repairMoreSpec)

/-- ITS FALSE NEIGHBOUR: 'it returns false'. Refute it at one input. -/
def repairMoreWrong : ChangeSpec := { name := "repairMore", fn := fun _ => fun
  | [d1, d2, d3] => { results := [.lit (.bool false)], args := [d1, d2, d3] }
  | _ => none }
def RepairMoreWrongFalsely : Prop := repairMoreRow.holds Tryd.pinned (OpenSpec.ofChange repairMoreWrong)

/-- 'tannoylaw27.RepairKnown': WHATEVER THE INPUT: true; the input reads as it did. -/
def repairKnownSpec : ChangeSpec := { name := "repairKnown", fn := fun _ => fun
  | [] => { results := [.lit (.bool true)], args := [] }
  | _ => none }
def repairKnownRow : OpenClaim := { program := "ytpiilfamfinieaadoor", sum := "a921f089e43ed4b43a2f0e651da86abddc97c97f97a814077de29beb0729d64c", func := "tannoy/tannoylaw27.RepairKnown", spec := "repairKnown", inPlace := ["internal/abi.NoEscape", "internal/bytealg.MakeNoZero"], unfollowed := true, recurses := true, named := ["math/bits.deBruijn32tab", "math/bits.deBruijn64tab"], apart := false, laid := [("math/bits.deBruijn32tab", laid_math_bits_deBruijn32tab), ("math/bits.deBruijn64tab", laid_math_bits_deBruijn64tab)] }
def RepairKnownSaid : Prop := repairKnownRow.holds Tryd.pinned (OpenSpec.ofChange repairKnownSpec)

/-- ITS FALSE NEIGHBOUR: 'it returns false'. Refute it at one input. -/
def repairKnownWrong : ChangeSpec := { name := "repairKnown", fn := fun _ => fun
  | [] => { results := [.lit (.bool false)], args := [] }
  | _ => none }
def RepairKnownWrongFalsely : Prop := repairKnownRow.holds Tryd.pinned (OpenSpec.ofChange repairKnownWrong)

/- THE SECOND FORM. 'bulk': how many values and letters a reading holds, each counted each time it is reached (what is shared counts as often as it is met; a slice's spare places count too). A statement '..UptoSaid' is the law's where the arguments, and the package variables that the reading takes, are together of bulk at most 1048576: NARROWER than '..Said'. Prove '..Said' where nothing that the law and all that it calls make is longer than what came in: it says more and counts as full. Else prove '..UptoSaid'. A law counts once. -/
mutual
def uptoBulk {H : Type} : DataW H → Nat
  | .lit (.string bytes) => bytes.length + 1
  | .lit _ => 1
  | .nil => 1
  | .ptr d => uptoBulk d + 1
  | .slice elems spare => uptoBulkAll elems + uptoBulkAll spare + 1
  | .agg parts => uptoBulkAll parts + 1
  | .iface _ d => uptoBulk d + 1
  | .map entries => uptoBulkEntries entries + 1
  | .held _ => 1
def uptoBulkAll {H : Type} : List (DataW H) → Nat
  | [] => 0
  | d :: r => uptoBulk d + uptoBulkAll r
def uptoBulkEntries {H : Type} : List (Lit × DataW H) → Nat
  | [] => 0
  | x :: r => uptoBulkEntry x + uptoBulkEntries r
def uptoBulkEntry {H : Type} : Lit × DataW H → Nat
  | (.string bytes, d) => bytes.length + uptoBulk d + 1
  | (_, d) => uptoBulk d + 1
 end
def uptoSmall : (H : Type) → List (DataW H) → Bool := fun _ ds => decide (uptoBulkAll ds ≤ 1048576)
def OpenSpec.upto (s : _root_.Go.ChangeSpec) : _root_.Go.OpenSpec := { _root_.Go.OpenSpec.ofChange s with cond := some uptoSmall }

/-- 'tannoylaw27.RepairCovers', WHERE WHAT IT READS IS OF BULK AT MOST 1048576: true; the input reads as it did. -/
def repairCoversUptoRow : OpenClaim := { program := "ytpiilfamfinieaadoor", sum := "a921f089e43ed4b43a2f0e651da86abddc97c97f97a814077de29beb0729d64c", func := "tannoy/tannoylaw27.RepairCovers", spec := "repairCovers", unfollowed := true, recurses := true, named := ["math/bits.deBruijn32tab", "math/bits.deBruijn64tab"], apart := false, laid := [("math/bits.deBruijn32tab", laid_math_bits_deBruijn32tab), ("math/bits.deBruijn64tab", laid_math_bits_deBruijn64tab)], narrowed := true }
def RepairCoversUptoSaid : Prop := repairCoversUptoRow.holds Tryd.pinned (OpenSpec.upto repairCoversSpec)

/-- 'tannoylaw27.RepairPlans', WHERE WHAT IT READS IS OF BULK AT MOST 1048576: true; the input reads as it did. -/
def repairPlansUptoRow : OpenClaim := { program := "ytpiilfamfinieaadoor", sum := "a921f089e43ed4b43a2f0e651da86abddc97c97f97a814077de29beb0729d64c", func := "tannoy/tannoylaw27.RepairPlans", spec := "repairPlans", unfollowed := true, recurses := true, named := ["math/bits.deBruijn32tab", "math/bits.deBruijn64tab"], apart := false, laid := [("math/bits.deBruijn32tab", laid_math_bits_deBruijn32tab), ("math/bits.deBruijn64tab", laid_math_bits_deBruijn64tab)], narrowed := true }
def RepairPlansUptoSaid : Prop := repairPlansUptoRow.holds Tryd.pinned (OpenSpec.upto repairPlansSpec)

/-- 'tannoylaw27.RepairMakes', WHERE WHAT IT READS IS OF BULK AT MOST 1048576: true; the input reads as it did. -/
def repairMakesUptoRow : OpenClaim := { program := "ytpiilfamfinieaadoor", sum := "a921f089e43ed4b43a2f0e651da86abddc97c97f97a814077de29beb0729d64c", func := "tannoy/tannoylaw27.RepairMakes", spec := "repairMakes", unfollowed := true, recurses := true, named := ["math/bits.deBruijn32tab", "math/bits.deBruijn64tab"], apart := false, laid := [("math/bits.deBruijn32tab", laid_math_bits_deBruijn32tab), ("math/bits.deBruijn64tab", laid_math_bits_deBruijn64tab)], narrowed := true }
def RepairMakesUptoSaid : Prop := repairMakesUptoRow.holds Tryd.pinned (OpenSpec.upto repairMakesSpec)

/-- 'tannoylaw27.RepairTrue', WHERE WHAT IT READS IS OF BULK AT MOST 1048576: true; the input reads as it did. -/
def repairTrueUptoRow : OpenClaim := { program := "ytpiilfamfinieaadoor", sum := "a921f089e43ed4b43a2f0e651da86abddc97c97f97a814077de29beb0729d64c", func := "tannoy/tannoylaw27.RepairTrue", spec := "repairTrue", unfollowed := true, recurses := true, named := ["math/bits.deBruijn32tab", "math/bits.deBruijn64tab"], apart := false, laid := [("math/bits.deBruijn32tab", laid_math_bits_deBruijn32tab), ("math/bits.deBruijn64tab", laid_math_bits_deBruijn64tab)], narrowed := true }
def RepairTrueUptoSaid : Prop := repairTrueUptoRow.holds Tryd.pinned (OpenSpec.upto repairTrueSpec)

/-- 'tannoylaw27.RepairGreatest', WHERE WHAT IT READS IS OF BULK AT MOST 1048576: true; the input reads as it did. -/
def repairGreatestUptoRow : OpenClaim := { program := "ytpiilfamfinieaadoor", sum := "a921f089e43ed4b43a2f0e651da86abddc97c97f97a814077de29beb0729d64c", func := "tannoy/tannoylaw27.RepairGreatest", spec := "repairGreatest", unfollowed := true, recurses := true, named := ["math/bits.deBruijn32tab", "math/bits.deBruijn64tab"], apart := false, laid := [("math/bits.deBruijn32tab", laid_math_bits_deBruijn32tab), ("math/bits.deBruijn64tab", laid_math_bits_deBruijn64tab)], narrowed := true }
def RepairGreatestUptoSaid : Prop := repairGreatestUptoRow.holds Tryd.pinned (OpenSpec.upto repairGreatestSpec)

/-- 'tannoylaw27.RepairMore', WHERE WHAT IT READS IS OF BULK AT MOST 1048576: true; the input reads as it did. -/
def repairMoreUptoRow : OpenClaim := { program := "ytpiilfamfinieaadoor", sum := "a921f089e43ed4b43a2f0e651da86abddc97c97f97a814077de29beb0729d64c", func := "tannoy/tannoylaw27.RepairMore", spec := "repairMore", unfollowed := true, recurses := true, named := ["math/bits.deBruijn32tab", "math/bits.deBruijn64tab"], apart := false, laid := [("math/bits.deBruijn32tab", laid_math_bits_deBruijn32tab), ("math/bits.deBruijn64tab", laid_math_bits_deBruijn64tab)], narrowed := true }
def RepairMoreUptoSaid : Prop := repairMoreUptoRow.holds Tryd.pinned (OpenSpec.upto repairMoreSpec)

/-- 'tannoylaw27.RepairKnown', WHERE WHAT IT READS IS OF BULK AT MOST 1048576: true; the input reads as it did. -/
def repairKnownUptoRow : OpenClaim := { program := "ytpiilfamfinieaadoor", sum := "a921f089e43ed4b43a2f0e651da86abddc97c97f97a814077de29beb0729d64c", func := "tannoy/tannoylaw27.RepairKnown", spec := "repairKnown", inPlace := ["internal/abi.NoEscape", "internal/bytealg.MakeNoZero"], unfollowed := true, recurses := true, named := ["math/bits.deBruijn32tab", "math/bits.deBruijn64tab"], apart := false, laid := [("math/bits.deBruijn32tab", laid_math_bits_deBruijn32tab), ("math/bits.deBruijn64tab", laid_math_bits_deBruijn64tab)], narrowed := true }
def RepairKnownUptoSaid : Prop := repairKnownUptoRow.holds Tryd.pinned (OpenSpec.upto repairKnownSpec)

end Rows
end Go.Proofs.YtpiilfamfinieaaDoor
