/-
  DERIVED. GIVEN WITH THE SEED: THE CARDS: each row of YtmlmfmdmomegpaaGreatDoorRows.lean that lists a variable, with what it lists TIED to the program's text (the seventh form; the later family's looks); each row that meets fmt, with fmt's text TOLD by the authors' own Lean function (tested against real Go, not proved from fmt's source: count such statements apart). THE CARD IS WHAT COUNTS. Prove the row's statement (the work); the ties are given (YtmlmfmdmomegpaaGreatDoorTie.lean); close each card by the builder's one call (the guide's Derived/Test/ToyasCard.lean, 'card_holds'). Laid BY PROGRAM, IN A SANDBOX (cutbox-door.mjs). By AI agents, Wed Nov 11 2026. No macro, syntax, notation, axiom, sorry.
-/
import Derived.Test.YtmlmfmdmomegpaaGreatDoorRows
import GoSem.ClaimSeven
namespace Go.Proofs.YtmlmfmdmomegpaaGreatDoor
namespace Rows

/-- THE TIED CARD OF 'tannoylaw08.StunCodes'. -/
def stunCodesCard : Claim7 := { stood := { row := stunCodesRow, standIns := [], harness := (true, "5f27dd6ed70dca3cf563e9660767357bc6414374a73c6f1dd9ec93831559d27f"), looks := true }, kinds := [], alts := [], laidByText := true, laidKinds := [.data, .pinned], laidTests := true, laidLooks := .later }
def StunCodesCardSaid : Prop := Claim7.holds Tryz.pinned (.plain (OpenSpec.ofChange stunCodesSpec)) stunCodesCard

/-- THE TIED CARD OF 'tannoylaw08.StunFinds'. -/
def stunFindsCard : Claim7 := { stood := { row := stunFindsRow, standIns := [], harness := (true, "5f27dd6ed70dca3cf563e9660767357bc6414374a73c6f1dd9ec93831559d27f"), looks := true }, kinds := [], alts := [], laidByText := true, laidKinds := [.data, .pinned], laidTests := true, laidLooks := .later }
def StunFindsCardSaid : Prop := Claim7.holds Tryz.pinned (.plain (OpenSpec.ofChange stunFindsSpec)) stunFindsCard

/-- THE TIED CARD OF 'tannoylaw08.StunBack'. -/
def stunBackCard : Claim7 := { stood := { row := stunBackRow, standIns := [], harness := (true, "5f27dd6ed70dca3cf563e9660767357bc6414374a73c6f1dd9ec93831559d27f"), looks := true }, kinds := [], alts := [], laidByText := true, laidKinds := [.data, .pinned], laidTests := true, laidLooks := .later }
def StunBackCardSaid : Prop := Claim7.holds Tryz.pinned (.plain (OpenSpec.ofChange stunBackSpec)) stunBackCard

/-- THE TIED CARD OF 'tannoylaw08.StunValues'. -/
def stunValuesCard : Claim7 := { stood := { row := stunValuesRow, standIns := [], harness := (true, "5f27dd6ed70dca3cf563e9660767357bc6414374a73c6f1dd9ec93831559d27f"), looks := true }, kinds := [], alts := [], laidByText := true, laidKinds := [.data, .pinned], laidTests := true, laidLooks := .later }
def StunValuesCardSaid : Prop := Claim7.holds Tryz.pinned (.plain (OpenSpec.ofChange stunValuesSpec)) stunValuesCard

/-- THE TIED CARD OF 'tannoylaw08.StunMixes'. -/
def stunMixesCard : Claim7 := { stood := { row := stunMixesRow, standIns := [], harness := (true, "5f27dd6ed70dca3cf563e9660767357bc6414374a73c6f1dd9ec93831559d27f"), looks := true }, kinds := [], alts := [], laidByText := true, laidKinds := [.data, .pinned], laidTests := true, laidLooks := .later }
def StunMixesCardSaid : Prop := Claim7.holds Tryz.pinned (.plain (OpenSpec.ofChange stunMixesSpec)) stunMixesCard

/-- THE TIED CARD OF 'tannoylaw08.StunMeans'. -/
def stunMeansCard : Claim7 := { stood := { row := stunMeansRow, standIns := [], harness := (true, "5f27dd6ed70dca3cf563e9660767357bc6414374a73c6f1dd9ec93831559d27f"), looks := true }, kinds := [], alts := [], laidByText := true, laidKinds := [.data, .pinned], laidTests := true, laidLooks := .later }
def StunMeansCardSaid : Prop := Claim7.holds Tryz.pinned (.plain (OpenSpec.ofChange stunMeansSpec)) stunMeansCard

/-- THE TIED CARD OF 'tannoylaw08.StunHolds'. -/
def stunHoldsCard : Claim7 := { stood := { row := stunHoldsRow, standIns := [], harness := (true, "5f27dd6ed70dca3cf563e9660767357bc6414374a73c6f1dd9ec93831559d27f"), looks := true }, kinds := [], alts := [], laidByText := true, laidKinds := [.data, .pinned], laidTests := true, laidLooks := .later }
def StunHoldsCardSaid : Prop := Claim7.holds Tryz.pinned (.plain (OpenSpec.ofChange stunHoldsSpec)) stunHoldsCard

/-- THE TIED CARD OF 'tannoylaw08.StunGuards'. -/
def stunGuardsCard : Claim7 := { stood := { row := stunGuardsRow, standIns := [], harness := (true, "5f27dd6ed70dca3cf563e9660767357bc6414374a73c6f1dd9ec93831559d27f"), looks := true }, kinds := [], alts := [], laidByText := true, laidKinds := [.data, .pinned], laidTests := true, laidLooks := .later }
def StunGuardsCardSaid : Prop := Claim7.holds Tryz.pinned (.plain (OpenSpec.ofChange stunGuardsSpec)) stunGuardsCard

/-- THE TIED CARD OF 'tannoylaw08.StunKnown'. -/
def stunKnownCard : Claim7 := { stood := { row := stunKnownRow, standIns := [], harness := (true, "5f27dd6ed70dca3cf563e9660767357bc6414374a73c6f1dd9ec93831559d27f"), looks := true }, kinds := [], alts := [], laidByText := true, laidKinds := [.data, .pinned], laidTests := true, laidLooks := .later }
def StunKnownCardSaid : Prop := Claim7.holds Tryz.pinned (.plain (OpenSpec.ofChange stunKnownSpec)) stunKnownCard

/-- THE SECOND FORM's CARD OF 'tannoylaw08.StunCodes'. -/
def stunCodesUptoCard : Claim7 := { stood := { row := stunCodesUptoRow, standIns := [], harness := (true, "5f27dd6ed70dca3cf563e9660767357bc6414374a73c6f1dd9ec93831559d27f"), looks := true }, kinds := [], alts := [], laidByText := true, laidKinds := [.data, .pinned], laidTests := true, laidLooks := .later }
def StunCodesUptoCardSaid : Prop := Claim7.holds Tryz.pinned (.plain (OpenSpec.upto stunCodesSpec)) stunCodesUptoCard

/-- THE SECOND FORM's CARD OF 'tannoylaw08.StunFinds'. -/
def stunFindsUptoCard : Claim7 := { stood := { row := stunFindsUptoRow, standIns := [], harness := (true, "5f27dd6ed70dca3cf563e9660767357bc6414374a73c6f1dd9ec93831559d27f"), looks := true }, kinds := [], alts := [], laidByText := true, laidKinds := [.data, .pinned], laidTests := true, laidLooks := .later }
def StunFindsUptoCardSaid : Prop := Claim7.holds Tryz.pinned (.plain (OpenSpec.upto stunFindsSpec)) stunFindsUptoCard

/-- THE SECOND FORM's CARD OF 'tannoylaw08.StunBack'. -/
def stunBackUptoCard : Claim7 := { stood := { row := stunBackUptoRow, standIns := [], harness := (true, "5f27dd6ed70dca3cf563e9660767357bc6414374a73c6f1dd9ec93831559d27f"), looks := true }, kinds := [], alts := [], laidByText := true, laidKinds := [.data, .pinned], laidTests := true, laidLooks := .later }
def StunBackUptoCardSaid : Prop := Claim7.holds Tryz.pinned (.plain (OpenSpec.upto stunBackSpec)) stunBackUptoCard

/-- THE SECOND FORM's CARD OF 'tannoylaw08.StunValues'. -/
def stunValuesUptoCard : Claim7 := { stood := { row := stunValuesUptoRow, standIns := [], harness := (true, "5f27dd6ed70dca3cf563e9660767357bc6414374a73c6f1dd9ec93831559d27f"), looks := true }, kinds := [], alts := [], laidByText := true, laidKinds := [.data, .pinned], laidTests := true, laidLooks := .later }
def StunValuesUptoCardSaid : Prop := Claim7.holds Tryz.pinned (.plain (OpenSpec.upto stunValuesSpec)) stunValuesUptoCard

/-- THE SECOND FORM's CARD OF 'tannoylaw08.StunMixes'. -/
def stunMixesUptoCard : Claim7 := { stood := { row := stunMixesUptoRow, standIns := [], harness := (true, "5f27dd6ed70dca3cf563e9660767357bc6414374a73c6f1dd9ec93831559d27f"), looks := true }, kinds := [], alts := [], laidByText := true, laidKinds := [.data, .pinned], laidTests := true, laidLooks := .later }
def StunMixesUptoCardSaid : Prop := Claim7.holds Tryz.pinned (.plain (OpenSpec.upto stunMixesSpec)) stunMixesUptoCard

/-- THE SECOND FORM's CARD OF 'tannoylaw08.StunMeans'. -/
def stunMeansUptoCard : Claim7 := { stood := { row := stunMeansUptoRow, standIns := [], harness := (true, "5f27dd6ed70dca3cf563e9660767357bc6414374a73c6f1dd9ec93831559d27f"), looks := true }, kinds := [], alts := [], laidByText := true, laidKinds := [.data, .pinned], laidTests := true, laidLooks := .later }
def StunMeansUptoCardSaid : Prop := Claim7.holds Tryz.pinned (.plain (OpenSpec.upto stunMeansSpec)) stunMeansUptoCard

/-- THE SECOND FORM's CARD OF 'tannoylaw08.StunHolds'. -/
def stunHoldsUptoCard : Claim7 := { stood := { row := stunHoldsUptoRow, standIns := [], harness := (true, "5f27dd6ed70dca3cf563e9660767357bc6414374a73c6f1dd9ec93831559d27f"), looks := true }, kinds := [], alts := [], laidByText := true, laidKinds := [.data, .pinned], laidTests := true, laidLooks := .later }
def StunHoldsUptoCardSaid : Prop := Claim7.holds Tryz.pinned (.plain (OpenSpec.upto stunHoldsSpec)) stunHoldsUptoCard

/-- THE SECOND FORM's CARD OF 'tannoylaw08.StunGuards'. -/
def stunGuardsUptoCard : Claim7 := { stood := { row := stunGuardsUptoRow, standIns := [], harness := (true, "5f27dd6ed70dca3cf563e9660767357bc6414374a73c6f1dd9ec93831559d27f"), looks := true }, kinds := [], alts := [], laidByText := true, laidKinds := [.data, .pinned], laidTests := true, laidLooks := .later }
def StunGuardsUptoCardSaid : Prop := Claim7.holds Tryz.pinned (.plain (OpenSpec.upto stunGuardsSpec)) stunGuardsUptoCard

/-- THE SECOND FORM's CARD OF 'tannoylaw08.StunKnown'. -/
def stunKnownUptoCard : Claim7 := { stood := { row := stunKnownUptoRow, standIns := [], harness := (true, "5f27dd6ed70dca3cf563e9660767357bc6414374a73c6f1dd9ec93831559d27f"), looks := true }, kinds := [], alts := [], laidByText := true, laidKinds := [.data, .pinned], laidTests := true, laidLooks := .later }
def StunKnownUptoCardSaid : Prop := Claim7.holds Tryz.pinned (.plain (OpenSpec.upto stunKnownSpec)) stunKnownUptoCard
end Rows
end Go.Proofs.YtmlmfmdmomegpaaGreatDoor
