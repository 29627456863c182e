/-
  DERIVED. GIVEN WITH THE SEED: THE CARDS: each row of YtpijoadbaocnpaaDoorRows.lean that lists a variable, with what it lists TIED to the program's text (the seventh form; the later family's looks); each row that meets fmt, with fmt's text TOLD by the authors' own Lean function (tested against real Go, not proved from fmt's source: count such statements apart). THE CARD IS WHAT COUNTS. Prove the row's statement (the work); the ties are given (YtpijoadbaocnpaaDoorTie.lean); close each card by the builder's one call (the guide's Derived/Test/ToyasCard.lean, 'card_holds'). Laid BY PROGRAM, IN A SANDBOX (cutbox-door.mjs). By AI agents, Wed Nov 11 2026. No macro, syntax, notation, axiom, sorry.
-/
import Derived.Test.YtpijoadbaocnpaaDoorRows
import GoSem.ClaimSeven
namespace Go.Proofs.YtpijoadbaocnpaaDoor
namespace Rows

/-- THE TIED CARD OF 'archivistlaw03.UnitReads'. -/
def unitReadsCard : Claim7 := { stood := { row := unitReadsRow, standIns := [], harness := (true, "5a806795c1c6f7a900a8531bb8e3a7d21047e7ee0d2b34fd7bf853e2b4bb1982"), looks := true }, kinds := [], alts := [], laidByText := true, laidKinds := [.data, .data, .data, .sentinel, .sentinel], laidTests := true, laidLooks := .later }
def UnitReadsCardSaid : Prop := Claim7.holds Tryd.pinned (.plain (OpenSpec.ofChange unitReadsSpec)) unitReadsCard

/-- THE TIED CARD OF 'archivistlaw03.UnitTells'. -/
def unitTellsCard : Claim7 := { stood := { row := unitTellsRow, standIns := [], harness := (true, "5a806795c1c6f7a900a8531bb8e3a7d21047e7ee0d2b34fd7bf853e2b4bb1982"), looks := true }, kinds := [], alts := [], laidByText := true, laidKinds := [.data, .data, .data, .sentinel, .sentinel], laidTests := true, laidLooks := .later }
def UnitTellsCardSaid : Prop := Claim7.holds Tryd.pinned (.plain (OpenSpec.ofChange unitTellsSpec)) unitTellsCard

/-- THE TIED CARD OF 'archivistlaw03.UnitBack'. -/
def unitBackCard : Claim7 := { stood := { row := unitBackRow, standIns := [], harness := (true, "5a806795c1c6f7a900a8531bb8e3a7d21047e7ee0d2b34fd7bf853e2b4bb1982"), looks := true }, kinds := [], alts := [], laidByText := true, laidKinds := [.data, .data, .data, .sentinel, .sentinel], laidTests := true, laidLooks := .later }
def UnitBackCardSaid : Prop := Claim7.holds Tryd.pinned (.plain (OpenSpec.ofChange unitBackSpec)) unitBackCard

/-- THE TIED CARD OF 'archivistlaw03.UnitOrder'. -/
def unitOrderCard : Claim7 := { stood := { row := unitOrderRow, standIns := [], harness := (true, "5a806795c1c6f7a900a8531bb8e3a7d21047e7ee0d2b34fd7bf853e2b4bb1982"), looks := true }, kinds := [], alts := [], laidByText := true, laidKinds := [.data, .data, .data, .sentinel, .sentinel], laidTests := true, laidLooks := .later }
def UnitOrderCardSaid : Prop := Claim7.holds Tryd.pinned (.plain (OpenSpec.ofChange unitOrderSpec)) unitOrderCard

/-- THE TIED CARD OF 'archivistlaw03.UnitOver'. -/
def unitOverCard : Claim7 := { stood := { row := unitOverRow, standIns := [], harness := (true, "5a806795c1c6f7a900a8531bb8e3a7d21047e7ee0d2b34fd7bf853e2b4bb1982"), looks := true }, kinds := [], alts := [], laidByText := true, laidKinds := [.data, .data, .data, .sentinel, .sentinel], laidTests := true, laidLooks := .later }
def UnitOverCardSaid : Prop := Claim7.holds Tryd.pinned (.plain (OpenSpec.ofChange unitOverSpec)) unitOverCard

/-- THE TIED CARD OF 'archivistlaw03.UnitSpans'. -/
def unitSpansCard : Claim7 := { stood := { row := unitSpansRow, standIns := [], harness := (true, "5a806795c1c6f7a900a8531bb8e3a7d21047e7ee0d2b34fd7bf853e2b4bb1982"), looks := true }, kinds := [], alts := [], laidByText := true, laidKinds := [.data, .data, .data, .sentinel, .sentinel], laidTests := true, laidLooks := .later }
def UnitSpansCardSaid : Prop := Claim7.holds Tryd.pinned (.plain (OpenSpec.ofChange unitSpansSpec)) unitSpansCard

/-- THE TIED CARD OF 'archivistlaw03.UnitSizes'. -/
def unitSizesCard : Claim7 := { stood := { row := unitSizesRow, standIns := [], harness := (true, "5a806795c1c6f7a900a8531bb8e3a7d21047e7ee0d2b34fd7bf853e2b4bb1982"), looks := true }, kinds := [], alts := [], laidByText := true, laidKinds := [.data, .data, .data, .sentinel, .sentinel], laidTests := true, laidLooks := .later }
def UnitSizesCardSaid : Prop := Claim7.holds Tryd.pinned (.plain (OpenSpec.ofChange unitSizesSpec)) unitSizesCard

/-- THE SECOND FORM's CARD OF 'archivistlaw03.UnitReads'. -/
def unitReadsUptoCard : Claim7 := { stood := { row := unitReadsUptoRow, standIns := [], harness := (true, "5a806795c1c6f7a900a8531bb8e3a7d21047e7ee0d2b34fd7bf853e2b4bb1982"), looks := true }, kinds := [], alts := [], laidByText := true, laidKinds := [.data, .data, .data, .sentinel, .sentinel], laidTests := true, laidLooks := .later }
def UnitReadsUptoCardSaid : Prop := Claim7.holds Tryd.pinned (.plain (OpenSpec.upto unitReadsSpec)) unitReadsUptoCard

/-- THE SECOND FORM's CARD OF 'archivistlaw03.UnitTells'. -/
def unitTellsUptoCard : Claim7 := { stood := { row := unitTellsUptoRow, standIns := [], harness := (true, "5a806795c1c6f7a900a8531bb8e3a7d21047e7ee0d2b34fd7bf853e2b4bb1982"), looks := true }, kinds := [], alts := [], laidByText := true, laidKinds := [.data, .data, .data, .sentinel, .sentinel], laidTests := true, laidLooks := .later }
def UnitTellsUptoCardSaid : Prop := Claim7.holds Tryd.pinned (.plain (OpenSpec.upto unitTellsSpec)) unitTellsUptoCard

/-- THE SECOND FORM's CARD OF 'archivistlaw03.UnitBack'. -/
def unitBackUptoCard : Claim7 := { stood := { row := unitBackUptoRow, standIns := [], harness := (true, "5a806795c1c6f7a900a8531bb8e3a7d21047e7ee0d2b34fd7bf853e2b4bb1982"), looks := true }, kinds := [], alts := [], laidByText := true, laidKinds := [.data, .data, .data, .sentinel, .sentinel], laidTests := true, laidLooks := .later }
def UnitBackUptoCardSaid : Prop := Claim7.holds Tryd.pinned (.plain (OpenSpec.upto unitBackSpec)) unitBackUptoCard

/-- THE SECOND FORM's CARD OF 'archivistlaw03.UnitOrder'. -/
def unitOrderUptoCard : Claim7 := { stood := { row := unitOrderUptoRow, standIns := [], harness := (true, "5a806795c1c6f7a900a8531bb8e3a7d21047e7ee0d2b34fd7bf853e2b4bb1982"), looks := true }, kinds := [], alts := [], laidByText := true, laidKinds := [.data, .data, .data, .sentinel, .sentinel], laidTests := true, laidLooks := .later }
def UnitOrderUptoCardSaid : Prop := Claim7.holds Tryd.pinned (.plain (OpenSpec.upto unitOrderSpec)) unitOrderUptoCard

/-- THE SECOND FORM's CARD OF 'archivistlaw03.UnitOver'. -/
def unitOverUptoCard : Claim7 := { stood := { row := unitOverUptoRow, standIns := [], harness := (true, "5a806795c1c6f7a900a8531bb8e3a7d21047e7ee0d2b34fd7bf853e2b4bb1982"), looks := true }, kinds := [], alts := [], laidByText := true, laidKinds := [.data, .data, .data, .sentinel, .sentinel], laidTests := true, laidLooks := .later }
def UnitOverUptoCardSaid : Prop := Claim7.holds Tryd.pinned (.plain (OpenSpec.upto unitOverSpec)) unitOverUptoCard

/-- THE SECOND FORM's CARD OF 'archivistlaw03.UnitSpans'. -/
def unitSpansUptoCard : Claim7 := { stood := { row := unitSpansUptoRow, standIns := [], harness := (true, "5a806795c1c6f7a900a8531bb8e3a7d21047e7ee0d2b34fd7bf853e2b4bb1982"), looks := true }, kinds := [], alts := [], laidByText := true, laidKinds := [.data, .data, .data, .sentinel, .sentinel], laidTests := true, laidLooks := .later }
def UnitSpansUptoCardSaid : Prop := Claim7.holds Tryd.pinned (.plain (OpenSpec.upto unitSpansSpec)) unitSpansUptoCard

/-- THE SECOND FORM's CARD OF 'archivistlaw03.UnitSizes'. -/
def unitSizesUptoCard : Claim7 := { stood := { row := unitSizesUptoRow, standIns := [], harness := (true, "5a806795c1c6f7a900a8531bb8e3a7d21047e7ee0d2b34fd7bf853e2b4bb1982"), looks := true }, kinds := [], alts := [], laidByText := true, laidKinds := [.data, .data, .data, .sentinel, .sentinel], laidTests := true, laidLooks := .later }
def UnitSizesUptoCardSaid : Prop := Claim7.holds Tryd.pinned (.plain (OpenSpec.upto unitSizesSpec)) unitSizesUptoCard
end Rows
end Go.Proofs.YtpijoadbaocnpaaDoor
