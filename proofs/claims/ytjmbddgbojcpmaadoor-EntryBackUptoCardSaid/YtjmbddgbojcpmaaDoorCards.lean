/-
  DERIVED. GIVEN WITH THE SEED: THE CARDS: each row of YtjmbddgbojcpmaaDoorRows.lean that lists a variable, with what it lists TIED to the program's text (the seventh form; the later family's looks); each row that meets fmt, with fmt's text TOLD by the authors' own Lean function (tested against real Go, not proved from fmt's source: count such statements apart). THE CARD IS WHAT COUNTS. Prove the row's statement (the work); the ties are given (YtjmbddgbojcpmaaDoorTie.lean); close each card by the builder's one call (the guide's Derived/Test/ToyasCard.lean, 'card_holds'). Laid BY PROGRAM, IN A SANDBOX (cutbox-door.mjs). By AI agents, Wed Nov 11 2026. No macro, syntax, notation, axiom, sorry.
-/
import Derived.Test.YtjmbddgbojcpmaaDoorRows
import GoSem.ClaimSeven
namespace Go.Proofs.YtjmbddgbojcpmaaDoor
namespace Rows

/-- THE TIED CARD OF 'archivistlaw13.EntryBack'. -/
def entryBackCard : Claim7 := { stood := { row := entryBackRow, standIns := [], harness := (true, "a011703587987b962077e1c636a8257153e2280ab279d8285a24f2db0258bd69"), looks := true }, kinds := [], alts := [], laidByText := true, laidKinds := [.data, .data, .data, .sentinel, .sentinel], laidTests := true, laidLooks := .later }
def EntryBackCardSaid : Prop := Claim7.holds Tryd.pinned (.plain (OpenSpec.ofChange entryBackSpec)) entryBackCard

/-- THE TIED CARD OF 'archivistlaw13.EntryOrder'. -/
def entryOrderCard : Claim7 := { stood := { row := entryOrderRow, standIns := [], harness := (true, "a011703587987b962077e1c636a8257153e2280ab279d8285a24f2db0258bd69"), looks := true }, kinds := [], alts := [], laidByText := true, laidKinds := [.data, .data, .data, .sentinel, .sentinel], laidTests := true, laidLooks := .later }
def EntryOrderCardSaid : Prop := Claim7.holds Tryd.pinned (.plain (OpenSpec.ofChange entryOrderSpec)) entryOrderCard

/-- THE TIED CARD OF 'archivistlaw13.EntrySorted'. -/
def entrySortedCard : Claim7 := { stood := { row := entrySortedRow, standIns := [], harness := (true, "a011703587987b962077e1c636a8257153e2280ab279d8285a24f2db0258bd69"), looks := true }, kinds := [], alts := [], laidByText := true, laidKinds := [.data, .data, .data, .sentinel, .sentinel], laidTests := true, laidLooks := .later }
def EntrySortedCardSaid : Prop := Claim7.holds Tryd.pinned (.plain (OpenSpec.ofChange entrySortedSpec)) entrySortedCard

/-- THE TIED CARD OF 'archivistlaw13.EntryPuts'. -/
def entryPutsCard : Claim7 := { stood := { row := entryPutsRow, standIns := [], harness := (true, "a011703587987b962077e1c636a8257153e2280ab279d8285a24f2db0258bd69"), looks := true }, kinds := [], alts := [], laidByText := true, laidKinds := [.data, .data, .data, .sentinel, .sentinel], laidTests := true, laidLooks := .later }
def EntryPutsCardSaid : Prop := Claim7.holds Tryd.pinned (.plain (OpenSpec.ofChange entryPutsSpec)) entryPutsCard

/-- THE SECOND FORM's CARD OF 'archivistlaw13.EntryBack'. -/
def entryBackUptoCard : Claim7 := { stood := { row := entryBackUptoRow, standIns := [], harness := (true, "a011703587987b962077e1c636a8257153e2280ab279d8285a24f2db0258bd69"), looks := true }, kinds := [], alts := [], laidByText := true, laidKinds := [.data, .data, .data, .sentinel, .sentinel], laidTests := true, laidLooks := .later }
def EntryBackUptoCardSaid : Prop := Claim7.holds Tryd.pinned (.plain (OpenSpec.upto entryBackSpec)) entryBackUptoCard

/-- THE SECOND FORM's CARD OF 'archivistlaw13.EntryOrder'. -/
def entryOrderUptoCard : Claim7 := { stood := { row := entryOrderUptoRow, standIns := [], harness := (true, "a011703587987b962077e1c636a8257153e2280ab279d8285a24f2db0258bd69"), looks := true }, kinds := [], alts := [], laidByText := true, laidKinds := [.data, .data, .data, .sentinel, .sentinel], laidTests := true, laidLooks := .later }
def EntryOrderUptoCardSaid : Prop := Claim7.holds Tryd.pinned (.plain (OpenSpec.upto entryOrderSpec)) entryOrderUptoCard

/-- THE SECOND FORM's CARD OF 'archivistlaw13.EntrySorted'. -/
def entrySortedUptoCard : Claim7 := { stood := { row := entrySortedUptoRow, standIns := [], harness := (true, "a011703587987b962077e1c636a8257153e2280ab279d8285a24f2db0258bd69"), looks := true }, kinds := [], alts := [], laidByText := true, laidKinds := [.data, .data, .data, .sentinel, .sentinel], laidTests := true, laidLooks := .later }
def EntrySortedUptoCardSaid : Prop := Claim7.holds Tryd.pinned (.plain (OpenSpec.upto entrySortedSpec)) entrySortedUptoCard

/-- THE SECOND FORM's CARD OF 'archivistlaw13.EntryPuts'. -/
def entryPutsUptoCard : Claim7 := { stood := { row := entryPutsUptoRow, standIns := [], harness := (true, "a011703587987b962077e1c636a8257153e2280ab279d8285a24f2db0258bd69"), looks := true }, kinds := [], alts := [], laidByText := true, laidKinds := [.data, .data, .data, .sentinel, .sentinel], laidTests := true, laidLooks := .later }
def EntryPutsUptoCardSaid : Prop := Claim7.holds Tryd.pinned (.plain (OpenSpec.upto entryPutsSpec)) entryPutsUptoCard
end Rows
end Go.Proofs.YtjmbddgbojcpmaaDoor
