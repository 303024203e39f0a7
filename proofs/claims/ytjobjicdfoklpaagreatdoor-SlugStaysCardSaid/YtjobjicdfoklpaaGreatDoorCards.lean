/-
  DERIVED. GIVEN WITH THE SEED: THE CARDS: each row of YtjobjicdfoklpaaGreatDoorRows.lean that lists a variable, with what it lists TIED to the program's text (the seventh form; the later family's looks); each row that meets fmt, with fmt's text TOLD by the authors' own Lean function (tested against real Go, not proved from fmt's source: count such statements apart). THE CARD IS WHAT COUNTS. Prove the row's statement (the work); the ties are given (YtjobjicdfoklpaaGreatDoorTie.lean); close each card by the builder's one call (the guide's Derived/Test/ToyasCard.lean, 'card_holds'). Laid BY PROGRAM, IN A SANDBOX (cutbox-door.mjs). By AI agents, Wed Nov 11 2026. No macro, syntax, notation, axiom, sorry.
-/
import Derived.Test.YtjobjicdfoklpaaGreatDoorRows
import GoSem.ClaimSeven
namespace Go.Proofs.YtjobjicdfoklpaaGreatDoor
namespace Rows

/-- THE TIED CARD OF 'publisherlaw24.TocOf'. -/
def tocOfCard : Claim7 := { stood := { row := tocOfRow, standIns := [], harness := (true, "537e62d68d8796a48ea4bbec2162d1a203212a0bafb3552faf5a92c7dcb0b8ec"), looks := false }, kinds := [], alts := [], laidByText := true, laidKinds := [.data, .data, .data], laidTests := true, laidLooks := .later }
def TocOfCardSaid : Prop := Claim7.holds Tryz.pinned (.plain (OpenSpec.ofChange tocOfSpec)) tocOfCard

/-- THE TIED CARD OF 'publisherlaw24.TocFill'. -/
def tocFillCard : Claim7 := { stood := { row := tocFillRow, standIns := [], harness := (true, "537e62d68d8796a48ea4bbec2162d1a203212a0bafb3552faf5a92c7dcb0b8ec"), looks := false }, kinds := [], alts := [], laidByText := true, laidKinds := [.data, .data, .data], laidTests := true, laidLooks := .later }
def TocFillCardSaid : Prop := Claim7.holds Tryz.pinned (.plain (OpenSpec.ofChange tocFillSpec)) tocFillCard

/-- THE TIED CARD OF 'publisherlaw24.TocEntries'. -/
def tocEntriesCard : Claim7 := { stood := { row := tocEntriesRow, standIns := [], harness := (true, "537e62d68d8796a48ea4bbec2162d1a203212a0bafb3552faf5a92c7dcb0b8ec"), looks := false }, kinds := [], alts := [], laidByText := true, laidKinds := [.data, .data, .data], laidTests := true, laidLooks := .later }
def TocEntriesCardSaid : Prop := Claim7.holds Tryz.pinned (.plain (OpenSpec.ofChange tocEntriesSpec)) tocEntriesCard

/-- THE TIED CARD OF 'publisherlaw04.TreeChecks'. -/
def treeChecksCard : Claim7 := { stood := { row := treeChecksRow, standIns := [], harness := (true, "537e62d68d8796a48ea4bbec2162d1a203212a0bafb3552faf5a92c7dcb0b8ec"), looks := false }, kinds := [], alts := [], laidByText := true, laidKinds := [.data, .pinned], laidTests := true, laidLooks := .later }
def TreeChecksCardSaid : Prop := Claim7.holds Tryz.pinned (.plain (OpenSpec.ofChange treeChecksSpec)) treeChecksCard

/-- THE TIED CARD OF 'publisherlaw04.TreeParts'. -/
def treePartsCard : Claim7 := { stood := { row := treePartsRow, standIns := [], harness := (true, "537e62d68d8796a48ea4bbec2162d1a203212a0bafb3552faf5a92c7dcb0b8ec"), looks := false }, kinds := [], alts := [], laidByText := true, laidKinds := [.data, .pinned], laidTests := true, laidLooks := .later }
def TreePartsCardSaid : Prop := Claim7.holds Tryz.pinned (.plain (OpenSpec.ofChange treePartsSpec)) treePartsCard

/-- THE TIED CARD OF 'publisherlaw21.SlugStays'. -/
def slugStaysCard : Claim7 := { stood := { row := slugStaysRow, standIns := [], harness := (true, "537e62d68d8796a48ea4bbec2162d1a203212a0bafb3552faf5a92c7dcb0b8ec"), looks := false }, kinds := [], alts := [], laidByText := true, laidKinds := [.data, .data, .data, .data, .pinned], laidTests := true, laidLooks := .later }
def SlugStaysCardSaid : Prop := Claim7.holds Tryz.pinned (.plain (OpenSpec.ofChange slugStaysSpec)) slugStaysCard

/-- THE TIED CARD OF 'publisherlaw24.TocLeads'. -/
def tocLeadsCard : Claim7 := { stood := { row := tocLeadsRow, standIns := [], harness := (true, "537e62d68d8796a48ea4bbec2162d1a203212a0bafb3552faf5a92c7dcb0b8ec"), looks := false }, kinds := [], alts := [], laidByText := true, laidKinds := [.data, .data, .data, .data, .pinned], laidTests := true, laidLooks := .later }
def TocLeadsCardSaid : Prop := Claim7.holds Tryz.pinned (.plain (OpenSpec.ofChange tocLeadsSpec)) tocLeadsCard

/-- THE SECOND FORM's CARD OF 'publisherlaw24.TocOf'. -/
def tocOfUptoCard : Claim7 := { stood := { row := tocOfUptoRow, standIns := [], harness := (true, "537e62d68d8796a48ea4bbec2162d1a203212a0bafb3552faf5a92c7dcb0b8ec"), looks := false }, kinds := [], alts := [], laidByText := true, laidKinds := [.data, .data, .data], laidTests := true, laidLooks := .later }
def TocOfUptoCardSaid : Prop := Claim7.holds Tryz.pinned (.plain (OpenSpec.upto tocOfSpec)) tocOfUptoCard

/-- THE SECOND FORM's CARD OF 'publisherlaw24.TocFill'. -/
def tocFillUptoCard : Claim7 := { stood := { row := tocFillUptoRow, standIns := [], harness := (true, "537e62d68d8796a48ea4bbec2162d1a203212a0bafb3552faf5a92c7dcb0b8ec"), looks := false }, kinds := [], alts := [], laidByText := true, laidKinds := [.data, .data, .data], laidTests := true, laidLooks := .later }
def TocFillUptoCardSaid : Prop := Claim7.holds Tryz.pinned (.plain (OpenSpec.upto tocFillSpec)) tocFillUptoCard

/-- THE SECOND FORM's CARD OF 'publisherlaw24.TocEntries'. -/
def tocEntriesUptoCard : Claim7 := { stood := { row := tocEntriesUptoRow, standIns := [], harness := (true, "537e62d68d8796a48ea4bbec2162d1a203212a0bafb3552faf5a92c7dcb0b8ec"), looks := false }, kinds := [], alts := [], laidByText := true, laidKinds := [.data, .data, .data], laidTests := true, laidLooks := .later }
def TocEntriesUptoCardSaid : Prop := Claim7.holds Tryz.pinned (.plain (OpenSpec.upto tocEntriesSpec)) tocEntriesUptoCard

/-- THE SECOND FORM's CARD OF 'publisherlaw04.TreeChecks'. -/
def treeChecksUptoCard : Claim7 := { stood := { row := treeChecksUptoRow, standIns := [], harness := (true, "537e62d68d8796a48ea4bbec2162d1a203212a0bafb3552faf5a92c7dcb0b8ec"), looks := false }, kinds := [], alts := [], laidByText := true, laidKinds := [.data, .pinned], laidTests := true, laidLooks := .later }
def TreeChecksUptoCardSaid : Prop := Claim7.holds Tryz.pinned (.plain (OpenSpec.upto treeChecksSpec)) treeChecksUptoCard

/-- THE SECOND FORM's CARD OF 'publisherlaw04.TreeParts'. -/
def treePartsUptoCard : Claim7 := { stood := { row := treePartsUptoRow, standIns := [], harness := (true, "537e62d68d8796a48ea4bbec2162d1a203212a0bafb3552faf5a92c7dcb0b8ec"), looks := false }, kinds := [], alts := [], laidByText := true, laidKinds := [.data, .pinned], laidTests := true, laidLooks := .later }
def TreePartsUptoCardSaid : Prop := Claim7.holds Tryz.pinned (.plain (OpenSpec.upto treePartsSpec)) treePartsUptoCard

/-- THE SECOND FORM's CARD OF 'publisherlaw21.SlugStays'. -/
def slugStaysUptoCard : Claim7 := { stood := { row := slugStaysUptoRow, standIns := [], harness := (true, "537e62d68d8796a48ea4bbec2162d1a203212a0bafb3552faf5a92c7dcb0b8ec"), looks := false }, kinds := [], alts := [], laidByText := true, laidKinds := [.data, .data, .data, .data, .pinned], laidTests := true, laidLooks := .later }
def SlugStaysUptoCardSaid : Prop := Claim7.holds Tryz.pinned (.plain (OpenSpec.upto slugStaysSpec)) slugStaysUptoCard

/-- THE SECOND FORM's CARD OF 'publisherlaw24.TocLeads'. -/
def tocLeadsUptoCard : Claim7 := { stood := { row := tocLeadsUptoRow, standIns := [], harness := (true, "537e62d68d8796a48ea4bbec2162d1a203212a0bafb3552faf5a92c7dcb0b8ec"), looks := false }, kinds := [], alts := [], laidByText := true, laidKinds := [.data, .data, .data, .data, .pinned], laidTests := true, laidLooks := .later }
def TocLeadsUptoCardSaid : Prop := Claim7.holds Tryz.pinned (.plain (OpenSpec.upto tocLeadsSpec)) tocLeadsUptoCard
end Rows
end Go.Proofs.YtjobjicdfoklpaaGreatDoor
