/-
  DERIVED. GIVEN WITH THE SEED: THE CARDS: each row of YtdnicaponolmmaaDoorRows.lean that lists a variable, with what it lists TIED to the program's text (the seventh form; the later family's looks); each row that meets fmt, with fmt's text TOLD by the authors' own Lean function (tested against real Go, not proved from fmt's source: count such statements apart). THE CARD IS WHAT COUNTS. Prove the row's statement (the work); the ties are given (YtdnicaponolmmaaDoorTie.lean); close each card by the builder's one call (the guide's Derived/Test/ToyasCard.lean, 'card_holds'). Laid BY PROGRAM, IN A SANDBOX (cutbox-door.mjs). By AI agents, Wed Nov 11 2026. No macro, syntax, notation, axiom, sorry.
-/
import Derived.Test.YtdnicaponolmmaaDoorRows
import GoSem.ClaimSeven
namespace Go.Proofs.YtdnicaponolmmaaDoor
namespace Rows

/-- THE TIED CARD OF 'archivistlaw02.NumReckons'. -/
def numReckonsCard : Claim7 := { stood := { row := numReckonsRow, standIns := [], harness := (true, "dba8256a9792ab0199d69b573fc90521c84be3eeab85c7fe962512088d884e7e"), looks := true }, kinds := [], alts := [], laidByText := true, laidKinds := [.data, .data, .data, .sentinel, .sentinel], laidTests := true, laidLooks := .later }
def NumReckonsCardSaid : Prop := Claim7.holds Tryd.pinned (.plain (OpenSpec.ofChange numReckonsSpec)) numReckonsCard

/-- THE TIED CARD OF 'archivistlaw02.NumTexts'. -/
def numTextsCard : Claim7 := { stood := { row := numTextsRow, standIns := [], harness := (true, "dba8256a9792ab0199d69b573fc90521c84be3eeab85c7fe962512088d884e7e"), looks := true }, kinds := [], alts := [], laidByText := true, laidKinds := [.data, .data, .data, .sentinel, .sentinel], laidTests := true, laidLooks := .later }
def NumTextsCardSaid : Prop := Claim7.holds Tryd.pinned (.plain (OpenSpec.ofChange numTextsSpec)) numTextsCard

/-- THE TIED CARD OF 'archivistlaw02.NumBack'. -/
def numBackCard : Claim7 := { stood := { row := numBackRow, standIns := [], harness := (true, "dba8256a9792ab0199d69b573fc90521c84be3eeab85c7fe962512088d884e7e"), looks := true }, kinds := [], alts := [], laidByText := true, laidKinds := [.data, .data, .data, .sentinel, .sentinel], laidTests := true, laidLooks := .later }
def NumBackCardSaid : Prop := Claim7.holds Tryd.pinned (.plain (OpenSpec.ofChange numBackSpec)) numBackCard

/-- THE TIED CARD OF 'archivistlaw02.NumLaws'. -/
def numLawsCard : Claim7 := { stood := { row := numLawsRow, standIns := [], harness := (true, "dba8256a9792ab0199d69b573fc90521c84be3eeab85c7fe962512088d884e7e"), looks := true }, kinds := [], alts := [], laidByText := true, laidKinds := [.data, .data, .data, .sentinel, .sentinel], laidTests := true, laidLooks := .later }
def NumLawsCardSaid : Prop := Claim7.holds Tryd.pinned (.plain (OpenSpec.ofChange numLawsSpec)) numLawsCard

/-- THE TIED CARD OF 'archivistlaw02.NumLeast'. -/
def numLeastCard : Claim7 := { stood := { row := numLeastRow, standIns := [], harness := (true, "dba8256a9792ab0199d69b573fc90521c84be3eeab85c7fe962512088d884e7e"), looks := true }, kinds := [], alts := [], laidByText := true, laidKinds := [.data, .data, .data, .sentinel, .sentinel], laidTests := true, laidLooks := .later }
def NumLeastCardSaid : Prop := Claim7.holds Tryd.pinned (.plain (OpenSpec.ofChange numLeastSpec)) numLeastCard

/-- THE TIED CARD OF 'archivistlaw02.NumMany'. -/
def numManyCard : Claim7 := { stood := { row := numManyRow, standIns := [], harness := (true, "dba8256a9792ab0199d69b573fc90521c84be3eeab85c7fe962512088d884e7e"), looks := true }, kinds := [], alts := [], laidByText := true, laidKinds := [.data, .data, .data, .sentinel, .sentinel], laidTests := true, laidLooks := .later }
def NumManyCardSaid : Prop := Claim7.holds Tryd.pinned (.plain (OpenSpec.ofChange numManySpec)) numManyCard

/-- THE SECOND FORM's CARD OF 'archivistlaw02.NumReckons'. -/
def numReckonsUptoCard : Claim7 := { stood := { row := numReckonsUptoRow, standIns := [], harness := (true, "dba8256a9792ab0199d69b573fc90521c84be3eeab85c7fe962512088d884e7e"), looks := true }, kinds := [], alts := [], laidByText := true, laidKinds := [.data, .data, .data, .sentinel, .sentinel], laidTests := true, laidLooks := .later }
def NumReckonsUptoCardSaid : Prop := Claim7.holds Tryd.pinned (.plain (OpenSpec.upto numReckonsSpec)) numReckonsUptoCard

/-- THE SECOND FORM's CARD OF 'archivistlaw02.NumTexts'. -/
def numTextsUptoCard : Claim7 := { stood := { row := numTextsUptoRow, standIns := [], harness := (true, "dba8256a9792ab0199d69b573fc90521c84be3eeab85c7fe962512088d884e7e"), looks := true }, kinds := [], alts := [], laidByText := true, laidKinds := [.data, .data, .data, .sentinel, .sentinel], laidTests := true, laidLooks := .later }
def NumTextsUptoCardSaid : Prop := Claim7.holds Tryd.pinned (.plain (OpenSpec.upto numTextsSpec)) numTextsUptoCard

/-- THE SECOND FORM's CARD OF 'archivistlaw02.NumBack'. -/
def numBackUptoCard : Claim7 := { stood := { row := numBackUptoRow, standIns := [], harness := (true, "dba8256a9792ab0199d69b573fc90521c84be3eeab85c7fe962512088d884e7e"), looks := true }, kinds := [], alts := [], laidByText := true, laidKinds := [.data, .data, .data, .sentinel, .sentinel], laidTests := true, laidLooks := .later }
def NumBackUptoCardSaid : Prop := Claim7.holds Tryd.pinned (.plain (OpenSpec.upto numBackSpec)) numBackUptoCard

/-- THE SECOND FORM's CARD OF 'archivistlaw02.NumLaws'. -/
def numLawsUptoCard : Claim7 := { stood := { row := numLawsUptoRow, standIns := [], harness := (true, "dba8256a9792ab0199d69b573fc90521c84be3eeab85c7fe962512088d884e7e"), looks := true }, kinds := [], alts := [], laidByText := true, laidKinds := [.data, .data, .data, .sentinel, .sentinel], laidTests := true, laidLooks := .later }
def NumLawsUptoCardSaid : Prop := Claim7.holds Tryd.pinned (.plain (OpenSpec.upto numLawsSpec)) numLawsUptoCard

/-- THE SECOND FORM's CARD OF 'archivistlaw02.NumLeast'. -/
def numLeastUptoCard : Claim7 := { stood := { row := numLeastUptoRow, standIns := [], harness := (true, "dba8256a9792ab0199d69b573fc90521c84be3eeab85c7fe962512088d884e7e"), looks := true }, kinds := [], alts := [], laidByText := true, laidKinds := [.data, .data, .data, .sentinel, .sentinel], laidTests := true, laidLooks := .later }
def NumLeastUptoCardSaid : Prop := Claim7.holds Tryd.pinned (.plain (OpenSpec.upto numLeastSpec)) numLeastUptoCard

/-- THE SECOND FORM's CARD OF 'archivistlaw02.NumMany'. -/
def numManyUptoCard : Claim7 := { stood := { row := numManyUptoRow, standIns := [], harness := (true, "dba8256a9792ab0199d69b573fc90521c84be3eeab85c7fe962512088d884e7e"), looks := true }, kinds := [], alts := [], laidByText := true, laidKinds := [.data, .data, .data, .sentinel, .sentinel], laidTests := true, laidLooks := .later }
def NumManyUptoCardSaid : Prop := Claim7.holds Tryd.pinned (.plain (OpenSpec.upto numManySpec)) numManyUptoCard
end Rows
end Go.Proofs.YtdnicaponolmmaaDoor
