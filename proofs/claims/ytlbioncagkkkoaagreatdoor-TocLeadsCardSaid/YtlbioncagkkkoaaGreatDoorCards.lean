/-
  DERIVED. GIVEN WITH THE SEED: THE CARDS: each row of YtlbioncagkkkoaaGreatDoorRows.lean that lists a variable, with what it lists TIED to the program's text (the seventh form; the later family's looks); each row that meets fmt, with fmt's text TOLD by the authors' own Lean function (tested against real Go, not proved from fmt's source: count such statements apart). THE CARD IS WHAT COUNTS. Prove the row's statement (the work); the ties are given (YtlbioncagkkkoaaGreatDoorTie.lean); close each card by the builder's one call (the guide's Derived/Test/ToyasCard.lean, 'card_holds'). Laid BY PROGRAM, IN A SANDBOX (cutbox-door.mjs). By AI agents, Wed Nov 11 2026. No macro, syntax, notation, axiom, sorry.
-/
import Derived.Test.YtlbioncagkkkoaaGreatDoorRows
import GoSem.ClaimSeven
namespace Go.Proofs.YtlbioncagkkkoaaGreatDoor
namespace Rows

/-- THE TIED CARD OF 'publisherlaw24.TocOf'. -/
def tocOfCard : Claim7 := { stood := { row := tocOfRow, standIns := [], harness := (true, "55cf424a03d3d78851c5a84d7c7adcf6452e2bbc478a2bfd1aeab9627462f5ae"), looks := false }, kinds := [], alts := [], laidByText := true, laidKinds := [.data, .data, .data], laidTests := true, laidLooks := .later }
def TocOfCardSaid : Prop := Claim7.holds Tryz.pinned (.plain (OpenSpec.ofChange tocOfSpec)) tocOfCard

/-- THE TIED CARD OF 'publisherlaw24.TocFill'. -/
def tocFillCard : Claim7 := { stood := { row := tocFillRow, standIns := [], harness := (true, "55cf424a03d3d78851c5a84d7c7adcf6452e2bbc478a2bfd1aeab9627462f5ae"), looks := false }, kinds := [], alts := [], laidByText := true, laidKinds := [.data, .data, .data], laidTests := true, laidLooks := .later }
def TocFillCardSaid : Prop := Claim7.holds Tryz.pinned (.plain (OpenSpec.ofChange tocFillSpec)) tocFillCard

/-- THE TIED CARD OF 'publisherlaw24.TocEntries'. -/
def tocEntriesCard : Claim7 := { stood := { row := tocEntriesRow, standIns := [], harness := (true, "55cf424a03d3d78851c5a84d7c7adcf6452e2bbc478a2bfd1aeab9627462f5ae"), looks := false }, kinds := [], alts := [], laidByText := true, laidKinds := [.data, .data, .data], laidTests := true, laidLooks := .later }
def TocEntriesCardSaid : Prop := Claim7.holds Tryz.pinned (.plain (OpenSpec.ofChange tocEntriesSpec)) tocEntriesCard

/-- THE TIED CARD OF 'publisherlaw24.TocLeads'. -/
def tocLeadsCard : Claim7 := { stood := { row := tocLeadsRow, standIns := [], harness := (true, "55cf424a03d3d78851c5a84d7c7adcf6452e2bbc478a2bfd1aeab9627462f5ae"), looks := false }, kinds := [], alts := [], laidByText := true, laidKinds := [.data, .data, .data, .data, .pinned], laidTests := true, laidLooks := .later }
def TocLeadsCardSaid : Prop := Claim7.holds Tryz.pinned (.plain (OpenSpec.ofChange tocLeadsSpec)) tocLeadsCard

/-- THE SECOND FORM's CARD OF 'publisherlaw24.TocOf'. -/
def tocOfUptoCard : Claim7 := { stood := { row := tocOfUptoRow, standIns := [], harness := (true, "55cf424a03d3d78851c5a84d7c7adcf6452e2bbc478a2bfd1aeab9627462f5ae"), looks := false }, kinds := [], alts := [], laidByText := true, laidKinds := [.data, .data, .data], laidTests := true, laidLooks := .later }
def TocOfUptoCardSaid : Prop := Claim7.holds Tryz.pinned (.plain (OpenSpec.upto tocOfSpec)) tocOfUptoCard

/-- THE SECOND FORM's CARD OF 'publisherlaw24.TocFill'. -/
def tocFillUptoCard : Claim7 := { stood := { row := tocFillUptoRow, standIns := [], harness := (true, "55cf424a03d3d78851c5a84d7c7adcf6452e2bbc478a2bfd1aeab9627462f5ae"), looks := false }, kinds := [], alts := [], laidByText := true, laidKinds := [.data, .data, .data], laidTests := true, laidLooks := .later }
def TocFillUptoCardSaid : Prop := Claim7.holds Tryz.pinned (.plain (OpenSpec.upto tocFillSpec)) tocFillUptoCard

/-- THE SECOND FORM's CARD OF 'publisherlaw24.TocEntries'. -/
def tocEntriesUptoCard : Claim7 := { stood := { row := tocEntriesUptoRow, standIns := [], harness := (true, "55cf424a03d3d78851c5a84d7c7adcf6452e2bbc478a2bfd1aeab9627462f5ae"), looks := false }, kinds := [], alts := [], laidByText := true, laidKinds := [.data, .data, .data], laidTests := true, laidLooks := .later }
def TocEntriesUptoCardSaid : Prop := Claim7.holds Tryz.pinned (.plain (OpenSpec.upto tocEntriesSpec)) tocEntriesUptoCard

/-- THE SECOND FORM's CARD OF 'publisherlaw24.TocLeads'. -/
def tocLeadsUptoCard : Claim7 := { stood := { row := tocLeadsUptoRow, standIns := [], harness := (true, "55cf424a03d3d78851c5a84d7c7adcf6452e2bbc478a2bfd1aeab9627462f5ae"), looks := false }, kinds := [], alts := [], laidByText := true, laidKinds := [.data, .data, .data, .data, .pinned], laidTests := true, laidLooks := .later }
def TocLeadsUptoCardSaid : Prop := Claim7.holds Tryz.pinned (.plain (OpenSpec.upto tocLeadsSpec)) tocLeadsUptoCard
end Rows
end Go.Proofs.YtlbioncagkkkoaaGreatDoor
