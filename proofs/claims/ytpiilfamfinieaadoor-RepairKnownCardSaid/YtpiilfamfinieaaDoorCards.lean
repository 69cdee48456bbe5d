/-
  DERIVED. GIVEN WITH THE SEED: THE CARDS: each row of YtpiilfamfinieaaDoorRows.lean that lists a variable, with what it lists TIED to the program's text (the seventh form; the later family's looks); each row that meets fmt, with fmt's text TOLD by the authors' own Lean function (tested against real Go, not proved from fmt's source: count such statements apart). THE CARD IS WHAT COUNTS. Prove the row's statement (the work); the ties are given (YtpiilfamfinieaaDoorTie.lean); close each card by the builder's one call (the guide's Derived/Test/ToyasCard.lean, 'card_holds'). Laid BY PROGRAM, IN A SANDBOX (cutbox-door.mjs). By AI agents, Wed Nov 11 2026. No macro, syntax, notation, axiom, sorry.
-/
import Derived.Test.YtpiilfamfinieaaDoorRows
import GoSem.ClaimSeven
namespace Go.Proofs.YtpiilfamfinieaaDoor
namespace Rows

/-- THE TIED CARD OF 'tannoylaw27.RepairCovers'. -/
def repairCoversCard : Claim7 := { stood := { row := repairCoversRow, standIns := [], harness := (true, "52c1d386f6a48f2ba45667ec5971b960f9754fdc3a6e9a23b4be65bb85a599a1"), looks := false }, kinds := [], alts := [], laidByText := true, laidKinds := [.data, .data], laidTests := true, laidLooks := .later }
def RepairCoversCardSaid : Prop := Claim7.holds Tryd.pinned (.plain (OpenSpec.ofChange repairCoversSpec)) repairCoversCard

/-- THE TIED CARD OF 'tannoylaw27.RepairPlans'. -/
def repairPlansCard : Claim7 := { stood := { row := repairPlansRow, standIns := [], harness := (true, "52c1d386f6a48f2ba45667ec5971b960f9754fdc3a6e9a23b4be65bb85a599a1"), looks := false }, kinds := [], alts := [], laidByText := true, laidKinds := [.data, .data], laidTests := true, laidLooks := .later }
def RepairPlansCardSaid : Prop := Claim7.holds Tryd.pinned (.plain (OpenSpec.ofChange repairPlansSpec)) repairPlansCard

/-- THE TIED CARD OF 'tannoylaw27.RepairMakes'. -/
def repairMakesCard : Claim7 := { stood := { row := repairMakesRow, standIns := [], harness := (true, "52c1d386f6a48f2ba45667ec5971b960f9754fdc3a6e9a23b4be65bb85a599a1"), looks := false }, kinds := [], alts := [], laidByText := true, laidKinds := [.data, .data], laidTests := true, laidLooks := .later }
def RepairMakesCardSaid : Prop := Claim7.holds Tryd.pinned (.plain (OpenSpec.ofChange repairMakesSpec)) repairMakesCard

/-- THE TIED CARD OF 'tannoylaw27.RepairTrue'. -/
def repairTrueCard : Claim7 := { stood := { row := repairTrueRow, standIns := [], harness := (true, "52c1d386f6a48f2ba45667ec5971b960f9754fdc3a6e9a23b4be65bb85a599a1"), looks := false }, kinds := [], alts := [], laidByText := true, laidKinds := [.data, .data], laidTests := true, laidLooks := .later }
def RepairTrueCardSaid : Prop := Claim7.holds Tryd.pinned (.plain (OpenSpec.ofChange repairTrueSpec)) repairTrueCard

/-- THE TIED CARD OF 'tannoylaw27.RepairGreatest'. -/
def repairGreatestCard : Claim7 := { stood := { row := repairGreatestRow, standIns := [], harness := (true, "52c1d386f6a48f2ba45667ec5971b960f9754fdc3a6e9a23b4be65bb85a599a1"), looks := false }, kinds := [], alts := [], laidByText := true, laidKinds := [.data, .data], laidTests := true, laidLooks := .later }
def RepairGreatestCardSaid : Prop := Claim7.holds Tryd.pinned (.plain (OpenSpec.ofChange repairGreatestSpec)) repairGreatestCard

/-- THE TIED CARD OF 'tannoylaw27.RepairMore'. -/
def repairMoreCard : Claim7 := { stood := { row := repairMoreRow, standIns := [], harness := (true, "52c1d386f6a48f2ba45667ec5971b960f9754fdc3a6e9a23b4be65bb85a599a1"), looks := false }, kinds := [], alts := [], laidByText := true, laidKinds := [.data, .data], laidTests := true, laidLooks := .later }
def RepairMoreCardSaid : Prop := Claim7.holds Tryd.pinned (.plain (OpenSpec.ofChange repairMoreSpec)) repairMoreCard

/-- THE TIED CARD OF 'tannoylaw27.RepairKnown'. -/
def repairKnownCard : Claim7 := { stood := { row := repairKnownRow, standIns := [], harness := (true, "52c1d386f6a48f2ba45667ec5971b960f9754fdc3a6e9a23b4be65bb85a599a1"), looks := false }, kinds := [], alts := [], laidByText := true, laidKinds := [.data, .data], laidTests := true, laidLooks := .later }
def RepairKnownCardSaid : Prop := Claim7.holds Tryd.pinned (.plain (OpenSpec.ofChange repairKnownSpec)) repairKnownCard

/-- THE SECOND FORM's CARD OF 'tannoylaw27.RepairCovers'. -/
def repairCoversUptoCard : Claim7 := { stood := { row := repairCoversUptoRow, standIns := [], harness := (true, "52c1d386f6a48f2ba45667ec5971b960f9754fdc3a6e9a23b4be65bb85a599a1"), looks := false }, kinds := [], alts := [], laidByText := true, laidKinds := [.data, .data], laidTests := true, laidLooks := .later }
def RepairCoversUptoCardSaid : Prop := Claim7.holds Tryd.pinned (.plain (OpenSpec.upto repairCoversSpec)) repairCoversUptoCard

/-- THE SECOND FORM's CARD OF 'tannoylaw27.RepairPlans'. -/
def repairPlansUptoCard : Claim7 := { stood := { row := repairPlansUptoRow, standIns := [], harness := (true, "52c1d386f6a48f2ba45667ec5971b960f9754fdc3a6e9a23b4be65bb85a599a1"), looks := false }, kinds := [], alts := [], laidByText := true, laidKinds := [.data, .data], laidTests := true, laidLooks := .later }
def RepairPlansUptoCardSaid : Prop := Claim7.holds Tryd.pinned (.plain (OpenSpec.upto repairPlansSpec)) repairPlansUptoCard

/-- THE SECOND FORM's CARD OF 'tannoylaw27.RepairMakes'. -/
def repairMakesUptoCard : Claim7 := { stood := { row := repairMakesUptoRow, standIns := [], harness := (true, "52c1d386f6a48f2ba45667ec5971b960f9754fdc3a6e9a23b4be65bb85a599a1"), looks := false }, kinds := [], alts := [], laidByText := true, laidKinds := [.data, .data], laidTests := true, laidLooks := .later }
def RepairMakesUptoCardSaid : Prop := Claim7.holds Tryd.pinned (.plain (OpenSpec.upto repairMakesSpec)) repairMakesUptoCard

/-- THE SECOND FORM's CARD OF 'tannoylaw27.RepairTrue'. -/
def repairTrueUptoCard : Claim7 := { stood := { row := repairTrueUptoRow, standIns := [], harness := (true, "52c1d386f6a48f2ba45667ec5971b960f9754fdc3a6e9a23b4be65bb85a599a1"), looks := false }, kinds := [], alts := [], laidByText := true, laidKinds := [.data, .data], laidTests := true, laidLooks := .later }
def RepairTrueUptoCardSaid : Prop := Claim7.holds Tryd.pinned (.plain (OpenSpec.upto repairTrueSpec)) repairTrueUptoCard

/-- THE SECOND FORM's CARD OF 'tannoylaw27.RepairGreatest'. -/
def repairGreatestUptoCard : Claim7 := { stood := { row := repairGreatestUptoRow, standIns := [], harness := (true, "52c1d386f6a48f2ba45667ec5971b960f9754fdc3a6e9a23b4be65bb85a599a1"), looks := false }, kinds := [], alts := [], laidByText := true, laidKinds := [.data, .data], laidTests := true, laidLooks := .later }
def RepairGreatestUptoCardSaid : Prop := Claim7.holds Tryd.pinned (.plain (OpenSpec.upto repairGreatestSpec)) repairGreatestUptoCard

/-- THE SECOND FORM's CARD OF 'tannoylaw27.RepairMore'. -/
def repairMoreUptoCard : Claim7 := { stood := { row := repairMoreUptoRow, standIns := [], harness := (true, "52c1d386f6a48f2ba45667ec5971b960f9754fdc3a6e9a23b4be65bb85a599a1"), looks := false }, kinds := [], alts := [], laidByText := true, laidKinds := [.data, .data], laidTests := true, laidLooks := .later }
def RepairMoreUptoCardSaid : Prop := Claim7.holds Tryd.pinned (.plain (OpenSpec.upto repairMoreSpec)) repairMoreUptoCard

/-- THE SECOND FORM's CARD OF 'tannoylaw27.RepairKnown'. -/
def repairKnownUptoCard : Claim7 := { stood := { row := repairKnownUptoRow, standIns := [], harness := (true, "52c1d386f6a48f2ba45667ec5971b960f9754fdc3a6e9a23b4be65bb85a599a1"), looks := false }, kinds := [], alts := [], laidByText := true, laidKinds := [.data, .data], laidTests := true, laidLooks := .later }
def RepairKnownUptoCardSaid : Prop := Claim7.holds Tryd.pinned (.plain (OpenSpec.upto repairKnownSpec)) repairKnownUptoCard
end Rows
end Go.Proofs.YtpiilfamfinieaaDoor
